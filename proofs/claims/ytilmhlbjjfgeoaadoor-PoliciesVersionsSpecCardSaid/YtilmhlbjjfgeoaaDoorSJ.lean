/-
  Part of the proof: SJ.
-/
import Derived.Test.YtilmhlbjjfgeoaaDoorSI
set_option linter.unusedSimpArgs false
set_option linter.unusedVariables false
set_option linter.constructorNameAsVariable false
section
namespace Go.Proofs.YtilmhlbjjfgeoaaDoor
open Go.AE Go.Lex Go.Pol
/-! ### Versions, of the reference -/
def fewV (l : List Vs) : Bool := !((decide (6 < l.length) && decide (l.length ≤ 256)) || decide (270 < l.length)) && (l.take 10).all fun x => fewP x.pol
theorem fewV_few {l : List Vs} (h : fewV l = true) : l.length ≤ 256 → VFew l := by
  intro hl x hx
  unfold fewV at h
  simp only [Bool.and_eq_true, Bool.not_eq_true', Bool.or_eq_false_iff, Bool.and_eq_false_iff, decide_eq_false_iff_not, List.all_eq_true] at h
  have : l.length ≤ 6 := by omega
  rw [List.take_of_length_le (by omega)] at h
  exact few_few (h.2 x hx)
theorem rs16 : Tryd.f16.results.toList = [.tmp 2] := by kernel_rfl
theorem rs18 : Tryd.f18.results.toList = [.tmp 6, .tmp 7, .tmp 8] := by kernel_rfl
theorem rs49 : Tryd.f49.results.toList = [.tmp 6] := by kernel_rfl
theorem rs4 : Tryd.f4.results.toList = [.tmp 6] := by kernel_rfl
set_option maxHeartbeats 8000000 in
set_option maxRecDepth 100000 in
theorem fewV_ev (tk : Tok) (sv : Nat) (l : List Vs) (rows : List (List AV)) (hr : VRows l rows) (hz : ∀ i : Nat, i < l.length → sv = 13) (hb : l.length ≤ 9223372036854775807) (h : Heap) : Says W 16 [.list tk sv rows] h (.ret (.v (.bool (fewV l)))) := by
  have u36 := Tryd.underlying36
  have a28 := ag28; have s52 := sz52; have s28 := sz28
  have hlen := hr.1
  have kr := Keep.mk hr
  have kz := Keep.mk hz
  have kx0 := Keep.mk (Ext.refl h)
  have bad : ∀ (hh : Heap), Ext h hh → fewV l = false → ∃ h', (some (Res.ret (AV.v (.bool false)), hh) : Option (Res × Heap)) = some (.ret (.v (.bool (fewV l))), h') ∧ Ext h h' := fun hh hx q => ⟨hh, by rw [q], hx⟩
  have kbad := Keep.mk bad
  clear hr hz bad
  refine call_ex rfl Tryd.func16 rfl ?_
  cases e0 : ((decide (6 < l.length) && decide (l.length ≤ 256)) || decide (270 < l.length)) with
  | true =>
    have hF : fewV l = false := by unfold fewV; rw [e0]; rfl
    have kfin := Keep.mk (fun hh hx => kbad.out hh hx hF)
    have e0' : (6 < l.length ∧ l.length ≤ 256) ∨ 270 < l.length := by simpa using e0
    clear e0 hF
    repeat' (first | simp (config := { maxSteps := 4000000 }) (disch := first | assumption | (exact Nat.le_refl _) | omega | (simp only [List.length_cons, List.length_nil, List.length_append, push_len, put_len, len_app] <;> omega) | (simp (disch := (first | assumption | omega | (exact (push_len _ _).symm) | (simp only [push_len, put_len, len_app]; omega) | (refine Nat.le_antisymm ?_ ?_ <;> simp only [push_len, put_len, len_app] <;> omega) | fail)) only [get_push_last, get_push_eq, get_push_ne, get_put_eq, get_put_ne, get_app] <;> first | assumption | rfl) | (simp only [canApp_push, canApp_put]; assumption) | (exact start_round _ _) | (simp only [st_round, dfr_round, pn_round]; first | assumption | exact start_round _ _) | fail) only [goS, plainEv, resultsEv, resultListEv, reduceIte, Nat.reduceEqDiff, Option.map_some, Option.map_none, Option.bind_some, List.map_cons, List.map_nil, List.getD_cons_zero, List.getD_cons_succ, List.getElem?_toArray, List.getElem?_cons_zero, List.getElem?_cons_succ, eq_self, beq_self_eq_true, goH, List.append_nil, List.nil_append, rs16, *] | (refine guard_dec (fun _ => ?_) (fun _ => ?_) <;> try (exfalso; omega)) | (refine guard_ndec (fun _ => ?_) (fun _ => ?_) <;> try (exfalso; omega)) | (refine branch_dec (fun _ => ?_) (fun _ => ?_) <;> try (exfalso; omega)) | (refine branch_ndec (fun _ => ?_) (fun _ => ?_) <;> try (exfalso; omega)) | refine guard_nbool (fun _ => ?_) (fun _ => ?_) | refine branch_nbool (fun _ => ?_) (fun _ => ?_) | refine guard_bool (fun _ => ?_) (fun _ => ?_) | refine branch_bool (fun _ => ?_) (fun _ => ?_))
    all_goals exact kfin.out _ kx0.out
  | false =>
    have e0' : ¬ ((6 < l.length ∧ l.length ≤ 256) ∨ 270 < l.length) := by
      intro q
      have : ((decide (6 < l.length) && decide (l.length ≤ 256)) || decide (270 < l.length)) = true := by simpa using q
      rw [e0] at this; cases this
    have hF : fewV l = (l.take 10).all fun x => fewP x.pol := by unfold fewV; rw [e0]; rfl
    have kF := Keep.mk hF
    clear e0 hF
    repeat' (first | simp (config := { maxSteps := 4000000 }) (disch := first | assumption | (exact Nat.le_refl _) | omega | (simp only [List.length_cons, List.length_nil, List.length_append, push_len, put_len, len_app] <;> omega) | (simp (disch := (first | assumption | omega | (exact (push_len _ _).symm) | (simp only [push_len, put_len, len_app]; omega) | (refine Nat.le_antisymm ?_ ?_ <;> simp only [push_len, put_len, len_app] <;> omega) | fail)) only [get_push_last, get_push_eq, get_push_ne, get_put_eq, get_put_ne, get_app] <;> first | assumption | rfl) | (simp only [canApp_push, canApp_put]; assumption) | (exact start_round _ _) | (simp only [st_round, dfr_round, pn_round]; first | assumption | exact start_round _ _) | fail) only [goS, plainEv, resultsEv, resultListEv, reduceIte, Nat.reduceEqDiff, Option.map_some, Option.map_none, Option.bind_some, List.map_cons, List.map_nil, List.getD_cons_zero, List.getD_cons_succ, List.getElem?_toArray, List.getElem?_cons_zero, List.getElem?_cons_succ, eq_self, beq_self_eq_true, goH, List.append_nil, List.nil_append, rs16, *] | (refine guard_dec (fun _ => ?_) (fun _ => ?_) <;> try (exfalso; omega)) | (refine guard_ndec (fun _ => ?_) (fun _ => ?_) <;> try (exfalso; omega)) | (refine branch_dec (fun _ => ?_) (fun _ => ?_) <;> try (exfalso; omega)) | (refine branch_ndec (fun _ => ?_) (fun _ => ?_) <;> try (exfalso; omega)) | refine guard_nbool (fun _ => ?_) (fun _ => ?_) | refine branch_nbool (fun _ => ?_) (fun _ => ?_) | refine guard_bool (fun _ => ?_) (fun _ => ?_) | refine branch_bool (fun _ => ?_) (fun _ => ?_))
    all_goals
      refine run_loop (fun m e h' => ∃ (i : Nat), i ≤ l.length ∧ i ≤ 10 ∧ m = l.length - i ∧ e.get 0 = .list tk sv rows ∧ e.get 3 = .v (.int .i64 i) ∧ e.defers = [] ∧ Ext h h' ∧ ∀ x ∈ l.take i, fewP x.pol = true) ?_ l.length _ _ ?_
      · rintro m e h' ⟨i, hi, hi10, rfl, g0, g3, hd, hx, hno⟩
        have kx := Keep.mk hx
        have kno := Keep.mk hno
        clear hx hno
        by_cases hlt : i < l.length ∧ i < 10
        · obtain ⟨y, t, hy, hry, oky⟩ := kr.out.get hlt.1
          have h13 := kz.out i hlt.1
          subst h13
          have hlt3 : (i : Int) < (rows.length : Int) := by rw [hlen]; omega
          have hlt5 : (i : Int) < (l.length : Int) := by omega
          have vf := @vrow_fit10 y t
          obtain ⟨h4, c4, hx4⟩ := fewP_ev y.pol t oky h'
          have kx4 := Keep.mk (kx.out.trans hx4)
          clear hx4 oky
          cases e4 : fewP y.pol with
          | true =>
            rw [e4] at c4
            have ke4 := Keep.mk e4
            clear e4
            repeat' (first | simp (config := { maxSteps := 4000000 }) (disch := first | assumption | (exact Nat.le_refl _) | omega | (simp only [List.length_cons, List.length_nil, List.length_append, push_len, put_len, len_app] <;> omega) | (simp (disch := (first | assumption | omega | (exact (push_len _ _).symm) | (simp only [push_len, put_len, len_app]; omega) | (refine Nat.le_antisymm ?_ ?_ <;> simp only [push_len, put_len, len_app] <;> omega) | fail)) only [get_push_last, get_push_eq, get_push_ne, get_put_eq, get_put_ne, get_app] <;> first | assumption | rfl) | (simp only [canApp_push, canApp_put]; assumption) | (exact start_round _ _) | (simp only [st_round, dfr_round, pn_round]; first | assumption | exact start_round _ _) | fail) only [goS, plainEv, resultsEv, resultListEv, reduceIte, Nat.reduceEqDiff, Option.map_some, Option.map_none, Option.bind_some, List.map_cons, List.map_nil, List.getD_cons_zero, List.getD_cons_succ, List.getElem?_toArray, List.getElem?_cons_zero, List.getElem?_cons_succ, eq_self, beq_self_eq_true, goH, List.append_nil, List.nil_append, rs16, fp52, vrs, index_list, load_row_agg, *] | (refine guard_dec (fun _ => ?_) (fun _ => ?_) <;> try (exfalso; omega)) | (refine guard_ndec (fun _ => ?_) (fun _ => ?_) <;> try (exfalso; omega)) | (refine branch_dec (fun _ => ?_) (fun _ => ?_) <;> try (exfalso; omega)) | (refine branch_ndec (fun _ => ?_) (fun _ => ?_) <;> try (exfalso; omega)) | refine guard_nbool (fun _ => ?_) (fun _ => ?_) | refine branch_nbool (fun _ => ?_) (fun _ => ?_) | refine guard_bool (fun _ => ?_) (fun _ => ?_) | refine branch_bool (fun _ => ?_) (fun _ => ?_))
            refine ⟨l.length - (i + 1), by omega, i + 1, by omega, by omega, rfl, (by first | trivial | (simp; done) | (simp; omega)), (by first | trivial | (simp; done) | (simp; omega)), (by first | trivial | (simp; done) | (simp; omega)), kx4.out, fun x hx => ?_⟩
            obtain ⟨hj, rfl⟩ := List.getElem?_eq_some_iff.1 hy
            rw [List.take_succ_eq_append_getElem hj] at hx
            rcases List.mem_append.1 hx with q | q
            · exact kno.out x q
            · simp at q; subst q; exact ke4.out
          | false =>
            rw [e4] at c4
            have hF : fewV l = false := by
              rw [kF.out, Bool.eq_false_iff]
              intro q
              have := List.all_eq_true.1 q y (by
                refine List.mem_of_getElem? (i := i) ?_
                rw [List.getElem?_take_of_lt hlt.2]; exact hy)
              rw [e4] at this; cases this
            have kfin := Keep.mk (fun hh hx => kbad.out hh hx hF)
            clear hF e4
            repeat' (first | simp (config := { maxSteps := 4000000 }) (disch := first | assumption | (exact Nat.le_refl _) | omega | (simp only [List.length_cons, List.length_nil, List.length_append, push_len, put_len, len_app] <;> omega) | (simp (disch := (first | assumption | omega | (exact (push_len _ _).symm) | (simp only [push_len, put_len, len_app]; omega) | (refine Nat.le_antisymm ?_ ?_ <;> simp only [push_len, put_len, len_app] <;> omega) | fail)) only [get_push_last, get_push_eq, get_push_ne, get_put_eq, get_put_ne, get_app] <;> first | assumption | rfl) | (simp only [canApp_push, canApp_put]; assumption) | (exact start_round _ _) | (simp only [st_round, dfr_round, pn_round]; first | assumption | exact start_round _ _) | fail) only [goS, plainEv, resultsEv, resultListEv, reduceIte, Nat.reduceEqDiff, Option.map_some, Option.map_none, Option.bind_some, List.map_cons, List.map_nil, List.getD_cons_zero, List.getD_cons_succ, List.getElem?_toArray, List.getElem?_cons_zero, List.getElem?_cons_succ, eq_self, beq_self_eq_true, goH, List.append_nil, List.nil_append, rs16, fp52, vrs, index_list, load_row_agg, *] | (refine guard_dec (fun _ => ?_) (fun _ => ?_) <;> try (exfalso; omega)) | (refine guard_ndec (fun _ => ?_) (fun _ => ?_) <;> try (exfalso; omega)) | (refine branch_dec (fun _ => ?_) (fun _ => ?_) <;> try (exfalso; omega)) | (refine branch_ndec (fun _ => ?_) (fun _ => ?_) <;> try (exfalso; omega)) | refine guard_nbool (fun _ => ?_) (fun _ => ?_) | refine branch_nbool (fun _ => ?_) (fun _ => ?_) | refine guard_bool (fun _ => ?_) (fun _ => ?_) | refine branch_bool (fun _ => ?_) (fun _ => ?_))
            exact kfin.out _ kx4.out
        · have hF : fewV l = true := by
            rw [kF.out]
            refine List.all_eq_true.2 fun x hx => kno.out x ?_
            have : l.take 10 = l.take i := by
              rcases Nat.lt_or_ge i l.length with w | w
              · have : i = 10 := by omega
                rw [this]
              · rw [List.take_of_length_le (by omega), List.take_of_length_le (by omega)]
            rw [← this]; exact hx
          rw [hF]
          by_cases h10 : i < l.length
          · have hlt5 : (i : Int) < (l.length : Int) := by omega
            have hlt6 : ¬ ((i : Int) < 10) := by omega
            repeat' (first | simp (config := { maxSteps := 4000000 }) (disch := first | assumption | (exact Nat.le_refl _) | omega | (simp only [List.length_cons, List.length_nil, List.length_append, push_len, put_len, len_app] <;> omega) | (simp (disch := (first | assumption | omega | (exact (push_len _ _).symm) | (simp only [push_len, put_len, len_app]; omega) | (refine Nat.le_antisymm ?_ ?_ <;> simp only [push_len, put_len, len_app] <;> omega) | fail)) only [get_push_last, get_push_eq, get_push_ne, get_put_eq, get_put_ne, get_app] <;> first | assumption | rfl) | (simp only [canApp_push, canApp_put]; assumption) | (exact start_round _ _) | (simp only [st_round, dfr_round, pn_round]; first | assumption | exact start_round _ _) | fail) only [goS, plainEv, resultsEv, resultListEv, reduceIte, Nat.reduceEqDiff, Option.map_some, Option.map_none, Option.bind_some, List.map_cons, List.map_nil, List.getD_cons_zero, List.getD_cons_succ, List.getElem?_toArray, List.getElem?_cons_zero, List.getElem?_cons_succ, eq_self, beq_self_eq_true, goH, List.append_nil, List.nil_append, rs16, *] | (refine guard_dec (fun _ => ?_) (fun _ => ?_) <;> try (exfalso; omega)) | (refine guard_ndec (fun _ => ?_) (fun _ => ?_) <;> try (exfalso; omega)) | (refine branch_dec (fun _ => ?_) (fun _ => ?_) <;> try (exfalso; omega)) | (refine branch_ndec (fun _ => ?_) (fun _ => ?_) <;> try (exfalso; omega)) | refine guard_nbool (fun _ => ?_) (fun _ => ?_) | refine branch_nbool (fun _ => ?_) (fun _ => ?_) | refine guard_bool (fun _ => ?_) (fun _ => ?_) | refine branch_bool (fun _ => ?_) (fun _ => ?_))
            exact ⟨_, rfl, kx.out⟩
          · have hlt5 : ¬ ((i : Int) < (l.length : Int)) := by omega
            repeat' (first | simp (config := { maxSteps := 4000000 }) (disch := first | assumption | (exact Nat.le_refl _) | omega | (simp only [List.length_cons, List.length_nil, List.length_append, push_len, put_len, len_app] <;> omega) | (simp (disch := (first | assumption | omega | (exact (push_len _ _).symm) | (simp only [push_len, put_len, len_app]; omega) | (refine Nat.le_antisymm ?_ ?_ <;> simp only [push_len, put_len, len_app] <;> omega) | fail)) only [get_push_last, get_push_eq, get_push_ne, get_put_eq, get_put_ne, get_app] <;> first | assumption | rfl) | (simp only [canApp_push, canApp_put]; assumption) | (exact start_round _ _) | (simp only [st_round, dfr_round, pn_round]; first | assumption | exact start_round _ _) | fail) only [goS, plainEv, resultsEv, resultListEv, reduceIte, Nat.reduceEqDiff, Option.map_some, Option.map_none, Option.bind_some, List.map_cons, List.map_nil, List.getD_cons_zero, List.getD_cons_succ, List.getElem?_toArray, List.getElem?_cons_zero, List.getElem?_cons_succ, eq_self, beq_self_eq_true, goH, List.append_nil, List.nil_append, rs16, *] | (refine guard_dec (fun _ => ?_) (fun _ => ?_) <;> try (exfalso; omega)) | (refine guard_ndec (fun _ => ?_) (fun _ => ?_) <;> try (exfalso; omega)) | (refine branch_dec (fun _ => ?_) (fun _ => ?_) <;> try (exfalso; omega)) | (refine branch_ndec (fun _ => ?_) (fun _ => ?_) <;> try (exfalso; omega)) | refine guard_nbool (fun _ => ?_) (fun _ => ?_) | refine branch_nbool (fun _ => ?_) (fun _ => ?_) | refine guard_bool (fun _ => ?_) (fun _ => ?_) | refine branch_bool (fun _ => ?_) (fun _ => ?_))
            exact ⟨_, rfl, kx.out⟩
      · refine ⟨0, Nat.zero_le _, Nat.zero_le _, rfl, ?_, ?_, ?_, kx0.out, fun x hx => by simp at hx⟩ <;> simp only [goS, plainEv, resultsEv, resultListEv, reduceIte, Nat.reduceEqDiff, Option.map_some, Option.map_none, Option.bind_some, List.map_cons, List.map_nil, List.getD_cons_zero, List.getD_cons_succ, List.getElem?_toArray, List.getElem?_cons_zero, List.getElem?_cons_succ, eq_self, beq_self_eq_true, goH] <;> rfl
end Go.Proofs.YtilmhlbjjfgeoaaDoor
end

section
namespace Go.Proofs.YtilmhlbjjfgeoaaDoor
open Go.AE Go.Lex Go.Pol
/-! ### CheckAll, of the reference -/
theorem verOk_eq {last : Int} {i : Nat} {y : Vs} (h0 : i = 0 → last = -1) (h1 : 0 < i → 0 ≤ last) : verOk last y = ((!decide (y.no < 0) && (!decide (1048576 < y.no) && !(decide ((0 : Int) < (i : Int)) && decide (y.no ≤ last)))) && (timeB y.at_ && (timeB y.known && decide (checkP y.pol = 0)))) := by
  unfold verOk
  congr 1
  rw [Bool.eq_iff_iff]
  simp only [Bool.and_eq_true, Bool.not_eq_true', Bool.and_eq_false_iff, decide_eq_true_eq, decide_eq_false_iff_not]
  rcases Nat.eq_zero_or_pos i with q | q
  · have := h0 q; omega
  · have := h1 q; omega
set_option maxHeartbeats 32000000 in
set_option maxRecDepth 100000 in
theorem refCheckAll_ev (tk : Tok) (sv : Nat) (l : List Vs) (rows : List (List AV)) (hr : VRows l rows) (hz : ∀ i : Nat, i < l.length → sv = 13) (few : l.length ≤ 256 → VFew l) (hb : l.length ≤ 9223372036854775807) (h : Heap) (hok : okHeap h = true) : Says W 20 [.list tk sv rows] h (.ret (.v (.int .i64 (checkAllF l)))) := by
  have u36 := Tryd.underlying36
  have g3a := ag3; have a28 := ag28; have a52 := ag52; have s52 := sz52; have s28 := sz28; have z52 := zc52
  have hlen := hr.1
  have kr := Keep.mk hr
  have kz := Keep.mk hz
  have kokh := Keep.mk hok
  have kx0 := Keep.mk (Ext.refl h)
  refine call_ex rfl Tryd.func20 rfl ?_
  by_cases hbig : 256 < l.length
  · have hbig' : (256 : Int) < (rows.length : Int) := by rw [hlen]; omega
    have hF : checkAllF l = 2 := by unfold checkAllF; rw [if_pos hbig]
    rw [hF]
    clear few hz hr hok
    repeat' (first | simp (config := { maxSteps := 4000000 }) (disch := first | assumption | (exact Nat.le_refl _) | omega | (simp only [List.length_cons, List.length_nil, List.length_append, push_len, put_len, len_app] <;> omega) | (simp (disch := (first | assumption | omega | (exact (push_len _ _).symm) | (simp only [push_len, put_len, len_app]; omega) | (refine Nat.le_antisymm ?_ ?_ <;> simp only [push_len, put_len, len_app] <;> omega) | fail)) only [get_push_last, get_push_eq, get_push_ne, get_put_eq, get_put_ne, get_app] <;> first | assumption | rfl) | (simp only [canApp_push, canApp_put]; assumption) | (exact start_round _ _) | (simp only [st_round, dfr_round, pn_round]; first | assumption | exact start_round _ _) | fail) only [goS, plainEv, resultsEv, resultListEv, reduceIte, Nat.reduceEqDiff, Option.map_some, Option.map_none, Option.bind_some, List.map_cons, List.map_nil, List.getD_cons_zero, List.getD_cons_succ, List.getElem?_toArray, List.getElem?_cons_zero, List.getElem?_cons_succ, eq_self, beq_self_eq_true, goH, List.append_nil, List.nil_append, rs20, *] | (refine guard_dec (fun _ => ?_) (fun _ => ?_) <;> try (exfalso; omega)) | (refine guard_ndec (fun _ => ?_) (fun _ => ?_) <;> try (exfalso; omega)) | (refine branch_dec (fun _ => ?_) (fun _ => ?_) <;> try (exfalso; omega)) | (refine branch_ndec (fun _ => ?_) (fun _ => ?_) <;> try (exfalso; omega)) | refine guard_nbool (fun _ => ?_) (fun _ => ?_) | refine branch_nbool (fun _ => ?_) (fun _ => ?_) | refine guard_bool (fun _ => ?_) (fun _ => ?_) | refine branch_bool (fun _ => ?_) (fun _ => ?_))
    exact ⟨_, rfl, kx0.out⟩
  · have kfew := Keep.mk (few (by omega))
    have hbig' : ¬ (256 : Int) < (rows.length : Int) := by rw [hlen]; omega
    have hF : checkAllF l = if versOk (-1) l = true then 0 else 200 := by unfold checkAllF; rw [if_neg hbig]
    rw [hF]
    have bad : ∀ (hh : Heap), Ext h hh → versOk (-1) l = false → ∃ h', (some (Res.ret (AV.v (.int .i64 200)), hh) : Option (Res × Heap)) = some (.ret (.v (.int .i64 (if versOk (-1) l = true then 0 else 200))), h') ∧ Ext h h' := fun hh hx q => ⟨hh, by rw [q]; rfl, hx⟩
    have kbad := Keep.mk bad
    clear bad hF few hz hr hok
    repeat' (first | simp (config := { maxSteps := 4000000 }) (disch := first | assumption | (exact Nat.le_refl _) | omega | (simp only [List.length_cons, List.length_nil, List.length_append, push_len, put_len, len_app] <;> omega) | (simp (disch := (first | assumption | omega | (exact (push_len _ _).symm) | (simp only [push_len, put_len, len_app]; omega) | (refine Nat.le_antisymm ?_ ?_ <;> simp only [push_len, put_len, len_app] <;> omega) | fail)) only [get_push_last, get_push_eq, get_push_ne, get_put_eq, get_put_ne, get_app] <;> first | assumption | rfl) | (simp only [canApp_push, canApp_put]; assumption) | (exact start_round _ _) | (simp only [st_round, dfr_round, pn_round]; first | assumption | exact start_round _ _) | fail) only [goS, plainEv, resultsEv, resultListEv, reduceIte, Nat.reduceEqDiff, Option.map_some, Option.map_none, Option.bind_some, List.map_cons, List.map_nil, List.getD_cons_zero, List.getD_cons_succ, List.getElem?_toArray, List.getElem?_cons_zero, List.getElem?_cons_succ, eq_self, beq_self_eq_true, goH, List.append_nil, List.nil_append, rs20, *] | (refine guard_dec (fun _ => ?_) (fun _ => ?_) <;> try (exfalso; omega)) | (refine guard_ndec (fun _ => ?_) (fun _ => ?_) <;> try (exfalso; omega)) | (refine branch_dec (fun _ => ?_) (fun _ => ?_) <;> try (exfalso; omega)) | (refine branch_ndec (fun _ => ?_) (fun _ => ?_) <;> try (exfalso; omega)) | refine guard_nbool (fun _ => ?_) (fun _ => ?_) | refine branch_nbool (fun _ => ?_) (fun _ => ?_) | refine guard_bool (fun _ => ?_) (fun _ => ?_) | refine branch_bool (fun _ => ?_) (fun _ => ?_))
    refine run_loop (fun m e h' => ∃ (i : Nat) (last : Int), i ≤ l.length ∧ m = l.length - i ∧ e.get 0 = .list tk sv rows ∧ e.get 3 = .v (.int .i64 i) ∧ e.defers = [] ∧ Ext h h' ∧ okHeap h' = true ∧ (i = 0 → last = -1) ∧ (0 < i → 0 ≤ last ∧ ∃ w, l[i - 1]? = some w ∧ w.no = last) ∧ versOk (-1) l = versOk last (l.drop i)) ?_ l.length _ _ ?_
    · rintro m e h' ⟨i, last, hi, rfl, g0, g3, hd, hx, hok', l0, l1, hno⟩
      have kx := Keep.mk hx
      have kno := Keep.mk hno
      have kok' := Keep.mk hok'
      have kl0 := Keep.mk l0
      have kl1 := Keep.mk l1
      clear hx hno hok' l0 l1
      by_cases hlt : i < l.length
      · obtain ⟨y, t, hy, hry, oky⟩ := kr.out.get hlt
        have h13 := kz.out i hlt
        subst h13
        have hlt3 : (i : Int) < (rows.length : Int) := by rw [hlen]; omega
        have hlt5 : (i : Int) < (l.length : Int) := by omega
        have vf := @vrow_fit13 y t
        have hdr : l.drop i = y :: l.drop (i + 1) := by
          obtain ⟨hj, rfl⟩ := List.getElem?_eq_some_iff.1 hy
          exact List.drop_eq_getElem_cons hj
        have hv : versOk last (l.drop i) = (verOk last y && versOk y.no (l.drop (i + 1))) := by rw [hdr, versOk]
        have hvno : verOk last y = false → versOk (-1) l = false := by intro q; rw [kno.out, hv, q]; rfl
        have hve := @verOk_eq last i y kl0.out (fun q => (kl1.out q).1)
        have kvno := Keep.mk (fun q => hvno (by rw [hve]; exact q))
        have kve := Keep.mk hve
        have khv := Keep.mk hv
        have kyy := Keep.mk hy
        obtain ⟨h4, c4, hx4⟩ := refCheck_ev y.pol t oky (kfew.out y (List.mem_of_getElem? hy)) (h'.push (vrow y t)) kok'.out
        have kx4 := Keep.mk ((kx.out.trans (.push _ (vrow y t))).trans hx4)
        have kx3 := Keep.mk (kx.out.trans (.push _ (vrow y t)))
        have kok4 := Keep.mk (hx4.ok kok'.out)
        have w2 := time_ev y.at_
        have w3 := time_ev y.known
        -- the one before
        have prev : ∀ d0 : Bool, decide ((0 : Int) < (i : Int)) = d0 → d0 = true → ∃ (w : Vs) (tw : PT), rows[i - 1]? = some (vrow w tw) ∧ w.no = last := by
          intro d0 q1 q2
          rw [q2] at q1
          have q1 := of_decide_eq_true q1
          obtain ⟨w, tw, hw, hrw, -⟩ := kr.out.get (show i - 1 < l.length by omega)
          obtain ⟨w', hw', e⟩ := (kl1.out (by omega)).2
          rw [hw] at hw'
          injection hw' with hw'
          subst hw'
          exact ⟨w, tw, hrw, e⟩
        have kprev := Keep.mk prev
        clear hx4 hdr hv hvno oky hve hy prev
        cases a1 : decide (y.no < 0) with
        | true =>
          have kfin := Keep.mk (fun hh hx => kbad.out hh hx (kvno.out (by rw [a1]; rfl)))
          repeat' (first | simp (config := { maxSteps := 4000000 }) (disch := first | assumption | (exact Nat.le_refl _) | omega | (simp only [List.length_cons, List.length_nil, List.length_append, push_len, put_len, len_app] <;> omega) | (simp (disch := (first | assumption | omega | (exact (push_len _ _).symm) | (simp only [push_len, put_len, len_app]; omega) | (refine Nat.le_antisymm ?_ ?_ <;> simp only [push_len, put_len, len_app] <;> omega) | fail)) only [get_push_last, get_push_eq, get_push_ne, get_put_eq, get_put_ne, get_app] <;> first | assumption | rfl) | (simp only [canApp_push, canApp_put]; assumption) | (exact start_round _ _) | (simp only [st_round, dfr_round, pn_round]; first | assumption | exact start_round _ _) | fail) only [goS, plainEv, resultsEv, resultListEv, reduceIte, Nat.reduceEqDiff, Option.map_some, Option.map_none, Option.bind_some, List.map_cons, List.map_nil, List.getD_cons_zero, List.getD_cons_succ, List.getElem?_toArray, List.getElem?_cons_zero, List.getElem?_cons_succ, eq_self, beq_self_eq_true, goH, List.append_nil, List.nil_append, rs20, fp52, vrs, load52, load52_3, store52, index_list, load_row_agg, put_push_eq, put_push_ne, push_len, *] | (refine guard_dec (fun _ => ?_) (fun _ => ?_) <;> try (exfalso; omega)) | (refine guard_ndec (fun _ => ?_) (fun _ => ?_) <;> try (exfalso; omega)) | (refine branch_dec (fun _ => ?_) (fun _ => ?_) <;> try (exfalso; omega)) | (refine branch_ndec (fun _ => ?_) (fun _ => ?_) <;> try (exfalso; omega)) | refine run_draw (by kernel_rfl) ?_ | refine guard_nbool (fun _ => ?_) (fun _ => ?_) | refine branch_nbool (fun _ => ?_) (fun _ => ?_) | refine guard_bool (fun _ => ?_) (fun _ => ?_) | refine branch_bool (fun _ => ?_) (fun _ => ?_))
          exact kfin.out _ kx3.out
        | false =>
          cases a2 : decide (1048576 < y.no) with
          | true =>
            have kfin := Keep.mk (fun hh hx => kbad.out hh hx (kvno.out (by rw [a1, a2]; rfl)))
            repeat' (first | simp (config := { maxSteps := 4000000 }) (disch := first | assumption | (exact Nat.le_refl _) | omega | (simp only [List.length_cons, List.length_nil, List.length_append, push_len, put_len, len_app] <;> omega) | (simp (disch := (first | assumption | omega | (exact (push_len _ _).symm) | (simp only [push_len, put_len, len_app]; omega) | (refine Nat.le_antisymm ?_ ?_ <;> simp only [push_len, put_len, len_app] <;> omega) | fail)) only [get_push_last, get_push_eq, get_push_ne, get_put_eq, get_put_ne, get_app] <;> first | assumption | rfl) | (simp only [canApp_push, canApp_put]; assumption) | (exact start_round _ _) | (simp only [st_round, dfr_round, pn_round]; first | assumption | exact start_round _ _) | fail) only [goS, plainEv, resultsEv, resultListEv, reduceIte, Nat.reduceEqDiff, Option.map_some, Option.map_none, Option.bind_some, List.map_cons, List.map_nil, List.getD_cons_zero, List.getD_cons_succ, List.getElem?_toArray, List.getElem?_cons_zero, List.getElem?_cons_succ, eq_self, beq_self_eq_true, goH, List.append_nil, List.nil_append, rs20, fp52, vrs, load52, load52_3, store52, index_list, load_row_agg, put_push_eq, put_push_ne, push_len, *] | (refine guard_dec (fun _ => ?_) (fun _ => ?_) <;> try (exfalso; omega)) | (refine guard_ndec (fun _ => ?_) (fun _ => ?_) <;> try (exfalso; omega)) | (refine branch_dec (fun _ => ?_) (fun _ => ?_) <;> try (exfalso; omega)) | (refine branch_ndec (fun _ => ?_) (fun _ => ?_) <;> try (exfalso; omega)) | refine run_draw (by kernel_rfl) ?_ | refine guard_nbool (fun _ => ?_) (fun _ => ?_) | refine branch_nbool (fun _ => ?_) (fun _ => ?_) | refine guard_bool (fun _ => ?_) (fun _ => ?_) | refine branch_bool (fun _ => ?_) (fun _ => ?_))
            exact kfin.out _ kx3.out
          | false =>
            cases a0 : decide ((0 : Int) < (i : Int)) with
            | false =>
              cases e2 : timeB y.at_ with
              | false =>
                have kfin := Keep.mk (fun hh hx => kbad.out hh hx (kvno.out (by rw [a1, a2, a0, e2]; simp)))
                rw [e2] at w2
                repeat' (first | simp (config := { maxSteps := 4000000 }) (disch := first | assumption | (exact Nat.le_refl _) | omega | (simp only [List.length_cons, List.length_nil, List.length_append, push_len, put_len, len_app] <;> omega) | (simp (disch := (first | assumption | omega | (exact (push_len _ _).symm) | (simp only [push_len, put_len, len_app]; omega) | (refine Nat.le_antisymm ?_ ?_ <;> simp only [push_len, put_len, len_app] <;> omega) | fail)) only [get_push_last, get_push_eq, get_push_ne, get_put_eq, get_put_ne, get_app] <;> first | assumption | rfl) | (simp only [canApp_push, canApp_put]; assumption) | (exact start_round _ _) | (simp only [st_round, dfr_round, pn_round]; first | assumption | exact start_round _ _) | fail) only [goS, plainEv, resultsEv, resultListEv, reduceIte, Nat.reduceEqDiff, Option.map_some, Option.map_none, Option.bind_some, List.map_cons, List.map_nil, List.getD_cons_zero, List.getD_cons_succ, List.getElem?_toArray, List.getElem?_cons_zero, List.getElem?_cons_succ, eq_self, beq_self_eq_true, goH, List.append_nil, List.nil_append, rs20, fp52, vrs, load52, load52_3, store52, index_list, load_row, load_row_agg, put_push_eq, put_push_ne, push_len, *] | (refine guard_dec (fun _ => ?_) (fun _ => ?_) <;> try (exfalso; omega)) | (refine guard_ndec (fun _ => ?_) (fun _ => ?_) <;> try (exfalso; omega)) | (refine branch_dec (fun _ => ?_) (fun _ => ?_) <;> try (exfalso; omega)) | (refine branch_ndec (fun _ => ?_) (fun _ => ?_) <;> try (exfalso; omega)) | refine run_draw (by kernel_rfl) ?_ | refine guard_nbool (fun _ => ?_) (fun _ => ?_) | refine branch_nbool (fun _ => ?_) (fun _ => ?_) | refine guard_bool (fun _ => ?_) (fun _ => ?_) | refine branch_bool (fun _ => ?_) (fun _ => ?_))
                exact kfin.out _ kx3.out
              | true =>
                rw [e2] at w2
                cases e3 : timeB y.known with
                | false =>
                  have kfin := Keep.mk (fun hh hx => kbad.out hh hx (kvno.out (by rw [a1, a2, a0, e2, e3]; simp)))
                  rw [e3] at w3
                  repeat' (first | simp (config := { maxSteps := 4000000 }) (disch := first | assumption | (exact Nat.le_refl _) | omega | (simp only [List.length_cons, List.length_nil, List.length_append, push_len, put_len, len_app] <;> omega) | (simp (disch := (first | assumption | omega | (exact (push_len _ _).symm) | (simp only [push_len, put_len, len_app]; omega) | (refine Nat.le_antisymm ?_ ?_ <;> simp only [push_len, put_len, len_app] <;> omega) | fail)) only [get_push_last, get_push_eq, get_push_ne, get_put_eq, get_put_ne, get_app] <;> first | assumption | rfl) | (simp only [canApp_push, canApp_put]; assumption) | (exact start_round _ _) | (simp only [st_round, dfr_round, pn_round]; first | assumption | exact start_round _ _) | fail) only [goS, plainEv, resultsEv, resultListEv, reduceIte, Nat.reduceEqDiff, Option.map_some, Option.map_none, Option.bind_some, List.map_cons, List.map_nil, List.getD_cons_zero, List.getD_cons_succ, List.getElem?_toArray, List.getElem?_cons_zero, List.getElem?_cons_succ, eq_self, beq_self_eq_true, goH, List.append_nil, List.nil_append, rs20, fp52, vrs, load52, load52_3, store52, index_list, load_row, load_row_agg, put_push_eq, put_push_ne, push_len, *] | (refine guard_dec (fun _ => ?_) (fun _ => ?_) <;> try (exfalso; omega)) | (refine guard_ndec (fun _ => ?_) (fun _ => ?_) <;> try (exfalso; omega)) | (refine branch_dec (fun _ => ?_) (fun _ => ?_) <;> try (exfalso; omega)) | (refine branch_ndec (fun _ => ?_) (fun _ => ?_) <;> try (exfalso; omega)) | refine run_draw (by kernel_rfl) ?_ | refine guard_nbool (fun _ => ?_) (fun _ => ?_) | refine branch_nbool (fun _ => ?_) (fun _ => ?_) | refine guard_bool (fun _ => ?_) (fun _ => ?_) | refine branch_bool (fun _ => ?_) (fun _ => ?_))
                  exact kfin.out _ kx3.out
                | true =>
                  rw [e3] at w3
                  cases e4 : decide (checkP y.pol = 0) with
                  | false =>
                    have kfin := Keep.mk (fun hh hx => kbad.out hh hx (kvno.out (by rw [a1, a2, a0, e2, e3, e4]; simp)))
                    repeat' (first | simp (config := { maxSteps := 4000000 }) (disch := first | assumption | (exact Nat.le_refl _) | omega | (simp only [List.length_cons, List.length_nil, List.length_append, push_len, put_len, len_app] <;> omega) | (simp (disch := (first | assumption | omega | (exact (push_len _ _).symm) | (simp only [push_len, put_len, len_app]; omega) | (refine Nat.le_antisymm ?_ ?_ <;> simp only [push_len, put_len, len_app] <;> omega) | fail)) only [get_push_last, get_push_eq, get_push_ne, get_put_eq, get_put_ne, get_app] <;> first | assumption | rfl) | (simp only [canApp_push, canApp_put]; assumption) | (exact start_round _ _) | (simp only [st_round, dfr_round, pn_round]; first | assumption | exact start_round _ _) | fail) only [goS, plainEv, resultsEv, resultListEv, reduceIte, Nat.reduceEqDiff, Option.map_some, Option.map_none, Option.bind_some, List.map_cons, List.map_nil, List.getD_cons_zero, List.getD_cons_succ, List.getElem?_toArray, List.getElem?_cons_zero, List.getElem?_cons_succ, eq_self, beq_self_eq_true, goH, List.append_nil, List.nil_append, rs20, fp52, vrs, load52, load52_3, store52, index_list, load_row, load_row_agg, put_push_eq, put_push_ne, push_len, *] | (refine guard_dec (fun _ => ?_) (fun _ => ?_) <;> try (exfalso; omega)) | (refine guard_ndec (fun _ => ?_) (fun _ => ?_) <;> try (exfalso; omega)) | (refine branch_dec (fun _ => ?_) (fun _ => ?_) <;> try (exfalso; omega)) | (refine branch_ndec (fun _ => ?_) (fun _ => ?_) <;> try (exfalso; omega)) | refine run_draw (by kernel_rfl) ?_ | refine guard_nbool (fun _ => ?_) (fun _ => ?_) | refine branch_nbool (fun _ => ?_) (fun _ => ?_) | refine guard_bool (fun _ => ?_) (fun _ => ?_) | refine branch_bool (fun _ => ?_) (fun _ => ?_))
                    exact kfin.out _ kx4.out
                  | true =>
                    have hgo : verOk last y = true := by rw [kve.out, a1, a2, a0, e2, e3, e4]; simp
                    have kgo := Keep.mk hgo
                    have hyno : 0 ≤ y.no := by have := of_decide_eq_false a1; omega
                    have kyno := Keep.mk hyno
                    clear hgo hyno
                    repeat' (first | simp (config := { maxSteps := 4000000 }) (disch := first | assumption | (exact Nat.le_refl _) | omega | (simp only [List.length_cons, List.length_nil, List.length_append, push_len, put_len, len_app] <;> omega) | (simp (disch := (first | assumption | omega | (exact (push_len _ _).symm) | (simp only [push_len, put_len, len_app]; omega) | (refine Nat.le_antisymm ?_ ?_ <;> simp only [push_len, put_len, len_app] <;> omega) | fail)) only [get_push_last, get_push_eq, get_push_ne, get_put_eq, get_put_ne, get_app] <;> first | assumption | rfl) | (simp only [canApp_push, canApp_put]; assumption) | (exact start_round _ _) | (simp only [st_round, dfr_round, pn_round]; first | assumption | exact start_round _ _) | fail) only [goS, plainEv, resultsEv, resultListEv, reduceIte, Nat.reduceEqDiff, Option.map_some, Option.map_none, Option.bind_some, List.map_cons, List.map_nil, List.getD_cons_zero, List.getD_cons_succ, List.getElem?_toArray, List.getElem?_cons_zero, List.getElem?_cons_succ, eq_self, beq_self_eq_true, goH, List.append_nil, List.nil_append, rs20, fp52, vrs, load52, load52_3, store52, index_list, load_row, load_row_agg, put_push_eq, put_push_ne, push_len, *] | (refine guard_dec (fun _ => ?_) (fun _ => ?_) <;> try (exfalso; omega)) | (refine guard_ndec (fun _ => ?_) (fun _ => ?_) <;> try (exfalso; omega)) | (refine branch_dec (fun _ => ?_) (fun _ => ?_) <;> try (exfalso; omega)) | (refine branch_ndec (fun _ => ?_) (fun _ => ?_) <;> try (exfalso; omega)) | refine run_draw (by kernel_rfl) ?_ | refine guard_nbool (fun _ => ?_) (fun _ => ?_) | refine branch_nbool (fun _ => ?_) (fun _ => ?_) | refine guard_bool (fun _ => ?_) (fun _ => ?_) | refine branch_bool (fun _ => ?_) (fun _ => ?_))
                    refine ⟨l.length - (i + 1), by omega, i + 1, y.no, by omega, rfl, (by first | trivial | (simp; done) | (simp; omega)), (by first | trivial | (simp; done) | (simp; omega)), (by first | trivial | (simp; done) | (simp; omega)), kx4.out, kok4.out, (fun q => absurd q (Nat.succ_ne_zero i)), (fun _ => ⟨kyno.out, y, kyy.out, rfl⟩), ?_⟩
                    rw [kno.out, khv.out, kgo.out]; rfl
            | true =>
              obtain ⟨w, tw, hrw, rfl⟩ := kprev.out true a0 rfl
              have hp0 : (0 : Int) ≤ (i : Int) - 1 := by have := of_decide_eq_true a0; omega
              have hp1 : (i : Int) - 1 < (rows.length : Int) := by omega
              have hp2 : ((i : Int) - 1).toNat = i - 1 := by omega
              cases a3 : decide (y.no ≤ w.no) with
              | true =>
                have kfin := Keep.mk (fun hh hx => kbad.out hh hx (kvno.out (by rw [a1, a2, a0, a3]; rfl)))
                repeat' (first | simp (config := { maxSteps := 4000000 }) (disch := first | assumption | (exact Nat.le_refl _) | omega | (simp only [List.length_cons, List.length_nil, List.length_append, push_len, put_len, len_app] <;> omega) | (simp (disch := (first | assumption | omega | (exact (push_len _ _).symm) | (simp only [push_len, put_len, len_app]; omega) | (refine Nat.le_antisymm ?_ ?_ <;> simp only [push_len, put_len, len_app] <;> omega) | fail)) only [get_push_last, get_push_eq, get_push_ne, get_put_eq, get_put_ne, get_app] <;> first | assumption | rfl) | (simp only [canApp_push, canApp_put]; assumption) | (exact start_round _ _) | (simp only [st_round, dfr_round, pn_round]; first | assumption | exact start_round _ _) | fail) only [goS, plainEv, resultsEv, resultListEv, reduceIte, Nat.reduceEqDiff, Option.map_some, Option.map_none, Option.bind_some, List.map_cons, List.map_nil, List.getD_cons_zero, List.getD_cons_succ, List.getElem?_toArray, List.getElem?_cons_zero, List.getElem?_cons_succ, eq_self, beq_self_eq_true, goH, List.append_nil, List.nil_append, rs20, fp52, vrs, load52, load52_3, store52, index_list, load_row, load_row_agg, put_push_eq, put_push_ne, push_len, hp2, *] | (refine guard_dec (fun _ => ?_) (fun _ => ?_) <;> try (exfalso; omega)) | (refine guard_ndec (fun _ => ?_) (fun _ => ?_) <;> try (exfalso; omega)) | (refine branch_dec (fun _ => ?_) (fun _ => ?_) <;> try (exfalso; omega)) | (refine branch_ndec (fun _ => ?_) (fun _ => ?_) <;> try (exfalso; omega)) | refine run_draw (by kernel_rfl) ?_ | refine guard_nbool (fun _ => ?_) (fun _ => ?_) | refine branch_nbool (fun _ => ?_) (fun _ => ?_) | refine guard_bool (fun _ => ?_) (fun _ => ?_) | refine branch_bool (fun _ => ?_) (fun _ => ?_))
                exact kfin.out _ kx3.out
              | false =>
                cases e2 : timeB y.at_ with
                | false =>
                  have kfin := Keep.mk (fun hh hx => kbad.out hh hx (kvno.out (by rw [a1, a2, a0, a3, e2]; simp)))
                  rw [e2] at w2
                  repeat' (first | simp (config := { maxSteps := 4000000 }) (disch := first | assumption | (exact Nat.le_refl _) | omega | (simp only [List.length_cons, List.length_nil, List.length_append, push_len, put_len, len_app] <;> omega) | (simp (disch := (first | assumption | omega | (exact (push_len _ _).symm) | (simp only [push_len, put_len, len_app]; omega) | (refine Nat.le_antisymm ?_ ?_ <;> simp only [push_len, put_len, len_app] <;> omega) | fail)) only [get_push_last, get_push_eq, get_push_ne, get_put_eq, get_put_ne, get_app] <;> first | assumption | rfl) | (simp only [canApp_push, canApp_put]; assumption) | (exact start_round _ _) | (simp only [st_round, dfr_round, pn_round]; first | assumption | exact start_round _ _) | fail) only [goS, plainEv, resultsEv, resultListEv, reduceIte, Nat.reduceEqDiff, Option.map_some, Option.map_none, Option.bind_some, List.map_cons, List.map_nil, List.getD_cons_zero, List.getD_cons_succ, List.getElem?_toArray, List.getElem?_cons_zero, List.getElem?_cons_succ, eq_self, beq_self_eq_true, goH, List.append_nil, List.nil_append, rs20, fp52, vrs, load52, load52_3, store52, index_list, load_row, load_row_agg, put_push_eq, put_push_ne, push_len, hp2, *] | (refine guard_dec (fun _ => ?_) (fun _ => ?_) <;> try (exfalso; omega)) | (refine guard_ndec (fun _ => ?_) (fun _ => ?_) <;> try (exfalso; omega)) | (refine branch_dec (fun _ => ?_) (fun _ => ?_) <;> try (exfalso; omega)) | (refine branch_ndec (fun _ => ?_) (fun _ => ?_) <;> try (exfalso; omega)) | refine run_draw (by kernel_rfl) ?_ | refine guard_nbool (fun _ => ?_) (fun _ => ?_) | refine branch_nbool (fun _ => ?_) (fun _ => ?_) | refine guard_bool (fun _ => ?_) (fun _ => ?_) | refine branch_bool (fun _ => ?_) (fun _ => ?_))
                  exact kfin.out _ kx3.out
                | true =>
                  rw [e2] at w2
                  cases e3 : timeB y.known with
                  | false =>
                    have kfin := Keep.mk (fun hh hx => kbad.out hh hx (kvno.out (by rw [a1, a2, a0, a3, e2, e3]; simp)))
                    rw [e3] at w3
                    repeat' (first | simp (config := { maxSteps := 4000000 }) (disch := first | assumption | (exact Nat.le_refl _) | omega | (simp only [List.length_cons, List.length_nil, List.length_append, push_len, put_len, len_app] <;> omega) | (simp (disch := (first | assumption | omega | (exact (push_len _ _).symm) | (simp only [push_len, put_len, len_app]; omega) | (refine Nat.le_antisymm ?_ ?_ <;> simp only [push_len, put_len, len_app] <;> omega) | fail)) only [get_push_last, get_push_eq, get_push_ne, get_put_eq, get_put_ne, get_app] <;> first | assumption | rfl) | (simp only [canApp_push, canApp_put]; assumption) | (exact start_round _ _) | (simp only [st_round, dfr_round, pn_round]; first | assumption | exact start_round _ _) | fail) only [goS, plainEv, resultsEv, resultListEv, reduceIte, Nat.reduceEqDiff, Option.map_some, Option.map_none, Option.bind_some, List.map_cons, List.map_nil, List.getD_cons_zero, List.getD_cons_succ, List.getElem?_toArray, List.getElem?_cons_zero, List.getElem?_cons_succ, eq_self, beq_self_eq_true, goH, List.append_nil, List.nil_append, rs20, fp52, vrs, load52, load52_3, store52, index_list, load_row, load_row_agg, put_push_eq, put_push_ne, push_len, hp2, *] | (refine guard_dec (fun _ => ?_) (fun _ => ?_) <;> try (exfalso; omega)) | (refine guard_ndec (fun _ => ?_) (fun _ => ?_) <;> try (exfalso; omega)) | (refine branch_dec (fun _ => ?_) (fun _ => ?_) <;> try (exfalso; omega)) | (refine branch_ndec (fun _ => ?_) (fun _ => ?_) <;> try (exfalso; omega)) | refine run_draw (by kernel_rfl) ?_ | refine guard_nbool (fun _ => ?_) (fun _ => ?_) | refine branch_nbool (fun _ => ?_) (fun _ => ?_) | refine guard_bool (fun _ => ?_) (fun _ => ?_) | refine branch_bool (fun _ => ?_) (fun _ => ?_))
                    exact kfin.out _ kx3.out
                  | true =>
                    rw [e3] at w3
                    cases e4 : decide (checkP y.pol = 0) with
                    | false =>
                      have kfin := Keep.mk (fun hh hx => kbad.out hh hx (kvno.out (by rw [a1, a2, a0, a3, e2, e3, e4]; simp)))
                      repeat' (first | simp (config := { maxSteps := 4000000 }) (disch := first | assumption | (exact Nat.le_refl _) | omega | (simp only [List.length_cons, List.length_nil, List.length_append, push_len, put_len, len_app] <;> omega) | (simp (disch := (first | assumption | omega | (exact (push_len _ _).symm) | (simp only [push_len, put_len, len_app]; omega) | (refine Nat.le_antisymm ?_ ?_ <;> simp only [push_len, put_len, len_app] <;> omega) | fail)) only [get_push_last, get_push_eq, get_push_ne, get_put_eq, get_put_ne, get_app] <;> first | assumption | rfl) | (simp only [canApp_push, canApp_put]; assumption) | (exact start_round _ _) | (simp only [st_round, dfr_round, pn_round]; first | assumption | exact start_round _ _) | fail) only [goS, plainEv, resultsEv, resultListEv, reduceIte, Nat.reduceEqDiff, Option.map_some, Option.map_none, Option.bind_some, List.map_cons, List.map_nil, List.getD_cons_zero, List.getD_cons_succ, List.getElem?_toArray, List.getElem?_cons_zero, List.getElem?_cons_succ, eq_self, beq_self_eq_true, goH, List.append_nil, List.nil_append, rs20, fp52, vrs, load52, load52_3, store52, index_list, load_row, load_row_agg, put_push_eq, put_push_ne, push_len, hp2, *] | (refine guard_dec (fun _ => ?_) (fun _ => ?_) <;> try (exfalso; omega)) | (refine guard_ndec (fun _ => ?_) (fun _ => ?_) <;> try (exfalso; omega)) | (refine branch_dec (fun _ => ?_) (fun _ => ?_) <;> try (exfalso; omega)) | (refine branch_ndec (fun _ => ?_) (fun _ => ?_) <;> try (exfalso; omega)) | refine run_draw (by kernel_rfl) ?_ | refine guard_nbool (fun _ => ?_) (fun _ => ?_) | refine branch_nbool (fun _ => ?_) (fun _ => ?_) | refine guard_bool (fun _ => ?_) (fun _ => ?_) | refine branch_bool (fun _ => ?_) (fun _ => ?_))
                      exact kfin.out _ kx4.out
                    | true =>
                      have hgo : verOk w.no y = true := by rw [kve.out, a1, a2, a0, a3, e2, e3, e4]; simp
                      have kgo := Keep.mk hgo
                      have hyno : 0 ≤ y.no := by have := of_decide_eq_false a1; omega
                      have kyno := Keep.mk hyno
                      clear hgo hyno
                      repeat' (first | simp (config := { maxSteps := 4000000 }) (disch := first | assumption | (exact Nat.le_refl _) | omega | (simp only [List.length_cons, List.length_nil, List.length_append, push_len, put_len, len_app] <;> omega) | (simp (disch := (first | assumption | omega | (exact (push_len _ _).symm) | (simp only [push_len, put_len, len_app]; omega) | (refine Nat.le_antisymm ?_ ?_ <;> simp only [push_len, put_len, len_app] <;> omega) | fail)) only [get_push_last, get_push_eq, get_push_ne, get_put_eq, get_put_ne, get_app] <;> first | assumption | rfl) | (simp only [canApp_push, canApp_put]; assumption) | (exact start_round _ _) | (simp only [st_round, dfr_round, pn_round]; first | assumption | exact start_round _ _) | fail) only [goS, plainEv, resultsEv, resultListEv, reduceIte, Nat.reduceEqDiff, Option.map_some, Option.map_none, Option.bind_some, List.map_cons, List.map_nil, List.getD_cons_zero, List.getD_cons_succ, List.getElem?_toArray, List.getElem?_cons_zero, List.getElem?_cons_succ, eq_self, beq_self_eq_true, goH, List.append_nil, List.nil_append, rs20, fp52, vrs, load52, load52_3, store52, index_list, load_row, load_row_agg, put_push_eq, put_push_ne, push_len, hp2, *] | (refine guard_dec (fun _ => ?_) (fun _ => ?_) <;> try (exfalso; omega)) | (refine guard_ndec (fun _ => ?_) (fun _ => ?_) <;> try (exfalso; omega)) | (refine branch_dec (fun _ => ?_) (fun _ => ?_) <;> try (exfalso; omega)) | (refine branch_ndec (fun _ => ?_) (fun _ => ?_) <;> try (exfalso; omega)) | refine run_draw (by kernel_rfl) ?_ | refine guard_nbool (fun _ => ?_) (fun _ => ?_) | refine branch_nbool (fun _ => ?_) (fun _ => ?_) | refine guard_bool (fun _ => ?_) (fun _ => ?_) | refine branch_bool (fun _ => ?_) (fun _ => ?_))
                      refine ⟨l.length - (i + 1), by omega, i + 1, y.no, by omega, rfl, (by first | trivial | (simp; done) | (simp; omega)), (by first | trivial | (simp; done) | (simp; omega)), (by first | trivial | (simp; done) | (simp; omega)), kx4.out, kok4.out, (fun q => absurd q (Nat.succ_ne_zero i)), (fun _ => ⟨kyno.out, y, kyy.out, rfl⟩), ?_⟩
                      rw [kno.out, khv.out, kgo.out]; rfl
      · have hie : i = l.length := by omega
        subst hie
        have hlt5 : ¬ ((l.length : Int) < (l.length : Int)) := by omega
        have hv : versOk (-1) l = true := by rw [kno.out, List.drop_length, versOk]
        rw [hv]
        repeat' (first | simp (config := { maxSteps := 4000000 }) (disch := first | assumption | (exact Nat.le_refl _) | omega | (simp only [List.length_cons, List.length_nil, List.length_append, push_len, put_len, len_app] <;> omega) | (simp (disch := (first | assumption | omega | (exact (push_len _ _).symm) | (simp only [push_len, put_len, len_app]; omega) | (refine Nat.le_antisymm ?_ ?_ <;> simp only [push_len, put_len, len_app] <;> omega) | fail)) only [get_push_last, get_push_eq, get_push_ne, get_put_eq, get_put_ne, get_app] <;> first | assumption | rfl) | (simp only [canApp_push, canApp_put]; assumption) | (exact start_round _ _) | (simp only [st_round, dfr_round, pn_round]; first | assumption | exact start_round _ _) | fail) only [goS, plainEv, resultsEv, resultListEv, reduceIte, Nat.reduceEqDiff, Option.map_some, Option.map_none, Option.bind_some, List.map_cons, List.map_nil, List.getD_cons_zero, List.getD_cons_succ, List.getElem?_toArray, List.getElem?_cons_zero, List.getElem?_cons_succ, eq_self, beq_self_eq_true, goH, List.append_nil, List.nil_append, rs20, *] | (refine guard_dec (fun _ => ?_) (fun _ => ?_) <;> try (exfalso; omega)) | (refine guard_ndec (fun _ => ?_) (fun _ => ?_) <;> try (exfalso; omega)) | (refine branch_dec (fun _ => ?_) (fun _ => ?_) <;> try (exfalso; omega)) | (refine branch_ndec (fun _ => ?_) (fun _ => ?_) <;> try (exfalso; omega)) | refine guard_nbool (fun _ => ?_) (fun _ => ?_) | refine branch_nbool (fun _ => ?_) (fun _ => ?_) | refine guard_bool (fun _ => ?_) (fun _ => ?_) | refine branch_bool (fun _ => ?_) (fun _ => ?_))
        exact ⟨_, rfl, kx.out⟩
    · refine ⟨0, -1, Nat.zero_le _, rfl, ?_, ?_, ?_, kx0.out, kokh.out, fun _ => rfl, fun q => absurd q (Nat.not_lt_zero 0), by rw [List.drop_zero]⟩ <;> simp only [goS, plainEv, resultsEv, resultListEv, reduceIte, Nat.reduceEqDiff, Option.map_some, Option.map_none, Option.bind_some, List.map_cons, List.map_nil, List.getD_cons_zero, List.getD_cons_succ, List.getElem?_toArray, List.getElem?_cons_zero, List.getElem?_cons_succ, eq_self, beq_self_eq_true, goH] <;> rfl
end Go.Proofs.YtilmhlbjjfgeoaaDoor
end

section
namespace Go.Proofs.YtilmhlbjjfgeoaaDoor
open Go.AE Go.Lex Go.Pol
/-! ### Force and Standing, of the reference -/
def bestL (at_ known : Int) (l : List Vs) : (Int × Int × Bool) × Int × Int := l.foldl (fun s x => (better at_ known s.1 x, (if betterB at_ known s.1.2.1 s.1.2.2 x = true then s.2.2 else s.2.1), s.2.2 + 1)) ((0, 0, false), -1, 0)
theorem bestL_stand (at_ known : Int) (l : List Vs) : (bestL at_ known l).1 = standL at_ known l := by
  unfold bestL standL
  generalize ((0, 0, false) : Int × Int × Bool) = s
  generalize (-1 : Int) = a
  generalize (0 : Int) = b
  induction l generalizing s a b with
  | nil => rfl
  | cons x l ih => simp only [List.foldl_cons]; exact ih _ _ _
def forceI (at_ known : Int) (l : List Vs) : Int := (bestL at_ known l).2.1
theorem rz49 : Tryd.f49.results.toList = [.tmp 6] := by kernel_rfl
theorem rz18 : Tryd.f18.results.toList = [.tmp 6, .tmp 7, .tmp 8] := by kernel_rfl
theorem bestL_step {at_ known no last : Int} {ok : Bool} {best : Int} {l : List Vs} {i : Nat} {y : Vs} (hy : l[i]? = some y) (h : bestL at_ known (l.take i) = ((no, last, ok), best, (i : Int))) : bestL at_ known (l.take (i + 1)) = ((if betterB at_ known last ok y = true then (y.no, y.at_, true) else (no, last, ok)), (if betterB at_ known last ok y = true then (i : Int) else best), (i : Int) + 1) := by
  obtain ⟨hj, rfl⟩ := List.getElem?_eq_some_iff.1 hy
  unfold bestL at h ⊢
  rw [List.take_succ_eq_append_getElem hj, List.foldl_append, h]
  rfl
/-- Where the best one lies. -/
def BR (l : List Vs) (no last : Int) (ok : Bool) (best : Int) : Prop := (ok = false → best = -1 ∧ no = 0) ∧ (ok = true → ∃ (b : Nat) (z : Vs), best = (b : Int) ∧ l[b]? = some z ∧ z.no = no ∧ z.at_ = last)
theorem best_BR (at_ known : Int) (l : List Vs) (i : Nat) (hi : i ≤ l.length) : ∃ no last ok best, bestL at_ known (l.take i) = ((no, last, ok), best, (i : Int)) ∧ BR l no last ok best := by
  induction i with
  | zero => exact ⟨0, 0, false, -1, rfl, fun _ => ⟨rfl, rfl⟩, fun q => nomatch q⟩
  | succ i ih =>
    obtain ⟨no, last, ok, best, e, br⟩ := ih (by omega)
    have hy : l[i]? = some l[i] := List.getElem?_eq_getElem (by omega)
    have e2 := bestL_step hy e
    cases d : betterB at_ known last ok l[i] with
    | true => rw [d] at e2; exact ⟨_, _, _, _, e2, fun q => (nomatch q), fun _ => ⟨i, _, rfl, hy, rfl, rfl⟩⟩
    | false => rw [d] at e2; exact ⟨_, _, _, _, e2, br⟩
set_option maxHeartbeats 32000000 in
set_option maxRecDepth 100000 in
theorem force_ev (tk : Tok) (sv : Nat) (l : List Vs) (rows : List (List AV)) (hr : VRows l rows) (hz : ∀ i : Nat, i < l.length → sv = 13) (hb : l.length ≤ 9223372036854775807) (at_ known : Int) (h : Heap) :
    Says W 49 [.list tk sv rows, .v (.int .i64 at_), .v (.int .i64 known)] h (.ret (.v (.int .i64 (forceI at_ known l)))) := by
  have u36 := Tryd.underlying36
  have g3a := ag3; have a28 := ag28; have a52 := ag52; have s52 := sz52; have s28 := sz28; have z52 := zc52
  have hlen := hr.1
  have kr := Keep.mk hr
  have kz := Keep.mk hz
  have k2 := Keep.mk (Ext.refl h)
  clear hr hz
  refine call_ex rfl Tryd.func49 rfl ?_
  repeat' (first | simp (config := { maxSteps := 4000000 }) (disch := first | assumption | (exact Nat.le_refl _) | omega | (simp only [List.length_cons, List.length_nil, List.length_append, push_len, put_len, len_app] <;> omega) | (simp (disch := (first | assumption | omega | (exact (push_len _ _).symm) | (simp only [push_len, put_len, len_app]; omega) | (refine Nat.le_antisymm ?_ ?_ <;> simp only [push_len, put_len, len_app] <;> omega) | fail)) only [get_push_last, get_push_eq, get_push_ne, get_put_eq, get_put_ne, get_app] <;> first | assumption | rfl) | (simp only [canApp_push, canApp_put]; assumption) | (exact start_round _ _) | (simp only [st_round, dfr_round, pn_round]; first | assumption | exact start_round _ _) | fail) only [goS, plainEv, resultsEv, resultListEv, reduceIte, Nat.reduceEqDiff, Option.map_some, Option.map_none, Option.bind_some, List.map_cons, List.map_nil, List.getD_cons_zero, List.getD_cons_succ, List.getElem?_toArray, List.getElem?_cons_zero, List.getElem?_cons_succ, eq_self, beq_self_eq_true, goH, List.append_nil, List.nil_append, rz49, *] | (refine guard_dec (fun _ => ?_) (fun _ => ?_) <;> try (exfalso; omega)) | (refine guard_ndec (fun _ => ?_) (fun _ => ?_) <;> try (exfalso; omega)) | (refine branch_dec (fun _ => ?_) (fun _ => ?_) <;> try (exfalso; omega)) | (refine branch_ndec (fun _ => ?_) (fun _ => ?_) <;> try (exfalso; omega)) | refine guard_nbool (fun _ => ?_) (fun _ => ?_) | refine branch_nbool (fun _ => ?_) (fun _ => ?_) | refine guard_bool (fun _ => ?_) (fun _ => ?_) | refine branch_bool (fun _ => ?_) (fun _ => ?_))
  refine run_loop (fun m e h' => ∃ (i : Nat) (no last : Int) (ok : Bool) (best : Int), i ≤ l.length ∧ m = l.length - i ∧ e.get 0 = .list tk sv rows ∧ e.get 1 = .v (.int .i64 at_) ∧ e.get 2 = .v (.int .i64 known) ∧ e.get 7 = .v (.int .i64 best) ∧ e.get 8 = .v (.int .i64 i) ∧ e.defers = [] ∧ Ext h h' ∧ bestL at_ known (l.take i) = ((no, last, ok), best, (i : Int)) ∧ BR l no last ok best) ?_ l.length _ _ ?_
  · rintro m e h' ⟨i, no, last, ok, best, hi, rfl, g0, g1, g2, g7, g8, hd, hx, hno, br⟩
    have kx := Keep.mk hx
    have kno := Keep.mk hno
    have kbr := Keep.mk br
    clear hx hno br
    by_cases hlt : i < l.length
    · obtain ⟨y, t, hy, hry, oky⟩ := kr.out.get hlt
      have h13 := kz.out i hlt
      subst h13
      have hlt3 : (i : Int) < (rows.length : Int) := by rw [hlen]; omega
      have hlt5 : (i : Int) < (l.length : Int) := by omega
      have hst := bestL_step hy kno.out
      have khy := Keep.mk hy
      have kst := Keep.mk hst
      have fin : ∀ d : Bool, betterB at_ known last ok y = d → BR l (if d = true then y.no else no) (if d = true then y.at_ else last) (if d = true then true else ok) (if d = true then (i : Int) else best) := by
        intro d _
        cases d with
        | true => exact ⟨fun q => (nomatch q), fun _ => ⟨i, y, rfl, khy.out, rfl, rfl⟩⟩
        | false => exact kbr.out
      have kfin := Keep.mk fin
      clear oky hst fin hy
      cases ok with
      | false =>
        obtain ⟨rfl, rfl⟩ := kbr.out.1 rfl
        cases d1 : decide (y.at_ ≤ at_) <;> cases d2 : decide (y.known ≤ known)
        all_goals
          have hb2 := kst.out
          have hb3 := kfin.out _ rfl
          unfold betterB at hb2 hb3
          simp only [d1, d2, Bool.and_true, Bool.and_false, Bool.false_and, Bool.true_and, Bool.not_true, Bool.not_false, Bool.true_or, Bool.false_or, Bool.or_true, Bool.or_false, Bool.false_eq_true, if_true, if_false] at hb2 hb3
          have kb2 := Keep.mk hb2
          have kb3 := Keep.mk hb3
          clear hb2 hb3
          repeat' (first | simp (config := { maxSteps := 4000000 }) (disch := first | assumption | (exact Nat.le_refl _) | omega | (simp only [List.length_cons, List.length_nil, List.length_append, push_len, put_len, len_app] <;> omega) | (simp (disch := (first | assumption | omega | (exact (push_len _ _).symm) | (simp only [push_len, put_len, len_app]; omega) | (refine Nat.le_antisymm ?_ ?_ <;> simp only [push_len, put_len, len_app] <;> omega) | fail)) only [get_push_last, get_push_eq, get_push_ne, get_put_eq, get_put_ne, get_app] <;> first | assumption | rfl) | (simp only [canApp_push, canApp_put]; assumption) | (exact start_round _ _) | (simp only [st_round, dfr_round, pn_round]; first | assumption | exact start_round _ _) | fail) only [goS, plainEv, resultsEv, resultListEv, reduceIte, Nat.reduceEqDiff, Option.map_some, Option.map_none, Option.bind_some, List.map_cons, List.map_nil, List.getD_cons_zero, List.getD_cons_succ, List.getElem?_toArray, List.getElem?_cons_zero, List.getElem?_cons_succ, eq_self, beq_self_eq_true, goH, List.append_nil, List.nil_append, rz49, fp52, vrs, index_list, load_row, *] | (refine guard_dec (fun _ => ?_) (fun _ => ?_) <;> try (exfalso; omega)) | (refine guard_ndec (fun _ => ?_) (fun _ => ?_) <;> try (exfalso; omega)) | (refine branch_dec (fun _ => ?_) (fun _ => ?_) <;> try (exfalso; omega)) | (refine branch_ndec (fun _ => ?_) (fun _ => ?_) <;> try (exfalso; omega)) | refine run_draw (by kernel_rfl) ?_ | refine guard_nbool (fun _ => ?_) (fun _ => ?_) | refine branch_nbool (fun _ => ?_) (fun _ => ?_) | refine guard_bool (fun _ => ?_) (fun _ => ?_) | refine branch_bool (fun _ => ?_) (fun _ => ?_))
          exact ⟨l.length - (i + 1), by omega, i + 1, _, _, _, _, by omega, rfl, (by first | trivial | (simp; done) | (simp; omega)), (by first | trivial | (simp; done) | (simp; omega)), (by first | trivial | (simp; done) | (simp; omega)), (by first | trivial | (simp; done) | (simp; omega)), (by first | trivial | (simp; done) | (simp; omega)), (by first | trivial | (simp; done) | (simp; omega)), kx.out, kb2.out, kb3.out⟩
      | true =>
        obtain ⟨b, z, rfl, hz2, hz3, rfl⟩ := kbr.out.2 rfl
        have hbl : b < l.length := (List.getElem?_eq_some_iff.1 hz2).1
        obtain ⟨z', tz, hz4, hrz, -⟩ := kr.out.get hbl
        rw [hz2] at hz4
        injection hz4 with hz4
        subst hz4
        have hb0 : (0 : Int) ≤ (b : Int) := by omega
        have hb9 : decide ((b : Int) < 0) = false := by simp
        have hb1 : (b : Int) < (rows.length : Int) := by rw [hlen]; omega
        clear hz2 hz3
        cases d1 : decide (y.at_ ≤ at_) <;> cases d2 : decide (y.known ≤ known) <;> cases d3 : decide (z.at_ ≤ y.at_)
        all_goals
          have hb2 := kst.out
          have hb3 := kfin.out _ rfl
          unfold betterB at hb2 hb3
          simp only [d1, d2, d3, Bool.and_true, Bool.and_false, Bool.false_and, Bool.true_and, Bool.not_true, Bool.not_false, Bool.true_or, Bool.false_or, Bool.or_true, Bool.or_false, Bool.false_eq_true, if_true, if_false] at hb2 hb3
          have kb2 := Keep.mk hb2
          have kb3 := Keep.mk hb3
          clear hb2 hb3
          repeat' (first | simp (config := { maxSteps := 4000000 }) (disch := first | assumption | (exact Nat.le_refl _) | omega | (simp only [List.length_cons, List.length_nil, List.length_append, push_len, put_len, len_app] <;> omega) | (simp (disch := (first | assumption | omega | (exact (push_len _ _).symm) | (simp only [push_len, put_len, len_app]; omega) | (refine Nat.le_antisymm ?_ ?_ <;> simp only [push_len, put_len, len_app] <;> omega) | fail)) only [get_push_last, get_push_eq, get_push_ne, get_put_eq, get_put_ne, get_app] <;> first | assumption | rfl) | (simp only [canApp_push, canApp_put]; assumption) | (exact start_round _ _) | (simp only [st_round, dfr_round, pn_round]; first | assumption | exact start_round _ _) | fail) only [goS, plainEv, resultsEv, resultListEv, reduceIte, Nat.reduceEqDiff, Option.map_some, Option.map_none, Option.bind_some, List.map_cons, List.map_nil, List.getD_cons_zero, List.getD_cons_succ, List.getElem?_toArray, List.getElem?_cons_zero, List.getElem?_cons_succ, eq_self, beq_self_eq_true, goH, List.append_nil, List.nil_append, rz49, fp52, vrs, index_list, load_row, *] | (refine guard_dec (fun _ => ?_) (fun _ => ?_) <;> try (exfalso; omega)) | (refine guard_ndec (fun _ => ?_) (fun _ => ?_) <;> try (exfalso; omega)) | (refine branch_dec (fun _ => ?_) (fun _ => ?_) <;> try (exfalso; omega)) | (refine branch_ndec (fun _ => ?_) (fun _ => ?_) <;> try (exfalso; omega)) | refine run_draw (by kernel_rfl) ?_ | refine guard_nbool (fun _ => ?_) (fun _ => ?_) | refine branch_nbool (fun _ => ?_) (fun _ => ?_) | refine guard_bool (fun _ => ?_) (fun _ => ?_) | refine branch_bool (fun _ => ?_) (fun _ => ?_))
          exact ⟨l.length - (i + 1), by omega, i + 1, _, _, _, _, by omega, rfl, (by first | trivial | (simp; done) | (simp; omega)), (by first | trivial | (simp; done) | (simp; omega)), (by first | trivial | (simp; done) | (simp; omega)), (by first | trivial | (simp; done) | (simp; omega)), (by first | trivial | (simp; done) | (simp; omega)), (by first | trivial | (simp; done) | (simp; omega)), kx.out, kb2.out, kb3.out⟩
    · have hie : i = l.length := by omega
      subst hie
      have hlt5 : ¬ ((l.length : Int) < (l.length : Int)) := by omega
      rw [List.take_length] at kno
      have hk : forceI at_ known l = best := by unfold forceI; rw [kno.out]
      rw [hk]
      repeat' (first | simp (config := { maxSteps := 4000000 }) (disch := first | assumption | (exact Nat.le_refl _) | omega | (simp only [List.length_cons, List.length_nil, List.length_append, push_len, put_len, len_app] <;> omega) | (simp (disch := (first | assumption | omega | (exact (push_len _ _).symm) | (simp only [push_len, put_len, len_app]; omega) | (refine Nat.le_antisymm ?_ ?_ <;> simp only [push_len, put_len, len_app] <;> omega) | fail)) only [get_push_last, get_push_eq, get_push_ne, get_put_eq, get_put_ne, get_app] <;> first | assumption | rfl) | (simp only [canApp_push, canApp_put]; assumption) | (exact start_round _ _) | (simp only [st_round, dfr_round, pn_round]; first | assumption | exact start_round _ _) | fail) only [goS, plainEv, resultsEv, resultListEv, reduceIte, Nat.reduceEqDiff, Option.map_some, Option.map_none, Option.bind_some, List.map_cons, List.map_nil, List.getD_cons_zero, List.getD_cons_succ, List.getElem?_toArray, List.getElem?_cons_zero, List.getElem?_cons_succ, eq_self, beq_self_eq_true, goH, List.append_nil, List.nil_append, rz49, *] | (refine guard_dec (fun _ => ?_) (fun _ => ?_) <;> try (exfalso; omega)) | (refine guard_ndec (fun _ => ?_) (fun _ => ?_) <;> try (exfalso; omega)) | (refine branch_dec (fun _ => ?_) (fun _ => ?_) <;> try (exfalso; omega)) | (refine branch_ndec (fun _ => ?_) (fun _ => ?_) <;> try (exfalso; omega)) | refine guard_nbool (fun _ => ?_) (fun _ => ?_) | refine branch_nbool (fun _ => ?_) (fun _ => ?_) | refine guard_bool (fun _ => ?_) (fun _ => ?_) | refine branch_bool (fun _ => ?_) (fun _ => ?_))
      exact ⟨_, rfl, kx.out⟩
  · refine ⟨0, 0, 0, false, -1, Nat.zero_le _, rfl, ?_, ?_, ?_, ?_, ?_, ?_, k2.out, rfl, fun _ => ⟨rfl, rfl⟩, fun q => (nomatch q)⟩ <;> simp only [goS, plainEv, resultsEv, resultListEv, reduceIte, Nat.reduceEqDiff, Option.map_some, Option.map_none, Option.bind_some, List.map_cons, List.map_nil, List.getD_cons_zero, List.getD_cons_succ, List.getElem?_toArray, List.getElem?_cons_zero, List.getElem?_cons_succ, eq_self, beq_self_eq_true, goH] <;> rfl
set_option maxHeartbeats 16000000 in
set_option maxRecDepth 100000 in
theorem refStanding_ev (tk : Tok) (sv : Nat) (l : List Vs) (rows : List (List AV)) (hr : VRows l rows) (hz : ∀ i : Nat, i < l.length → sv = 13) (few : l.length ≤ 256 → VFew l) (hb : l.length ≤ 9223372036854775807) (at_ known : Int) (h : Heap) (hok : okHeap h = true) :
    Says W 18 [.list tk sv rows, .v (.int .i64 at_), .v (.int .i64 known)] h (.ret (triple (standF l at_ known).1 (standF l at_ known).2.1 (standF l at_ known).2.2)) := by
  have u36 := Tryd.underlying36
  have g3a := ag3; have a28 := ag28; have a52 := ag52; have s52 := sz52; have s28 := sz28; have z52 := zc52
  have hlen := hr.1
  obtain ⟨h2, c2, x2⟩ := refCheckAll_ev tk sv l rows hr hz few hb h hok
  obtain ⟨h3, c3, x3⟩ := force_ev tk sv l rows hr hz hb at_ known h2
  have kr := Keep.mk hr
  have kz := Keep.mk hz
  have k2 := Keep.mk x2
  have k3 := Keep.mk (x2.trans x3)
  have w1 := time_ev at_
  have w2 := time_ev known
  clear hr hz few hok x2 x3
  refine call_ex rfl Tryd.func18 rfl ?_
  cases e1 : decide (checkAllF l = 0) with
  | false =>
    have hF : standF l at_ known = (0, false, checkAllF l) := by unfold standF; rw [if_neg (of_decide_eq_false e1)]
    rw [hF]
    repeat' (first | simp (config := { maxSteps := 4000000 }) (disch := first | assumption | (exact Nat.le_refl _) | omega | (simp only [List.length_cons, List.length_nil, List.length_append, push_len, put_len, len_app] <;> omega) | (simp (disch := (first | assumption | omega | (exact (push_len _ _).symm) | (simp only [push_len, put_len, len_app]; omega) | (refine Nat.le_antisymm ?_ ?_ <;> simp only [push_len, put_len, len_app] <;> omega) | fail)) only [get_push_last, get_push_eq, get_push_ne, get_put_eq, get_put_ne, get_app] <;> first | assumption | rfl) | (simp only [canApp_push, canApp_put]; assumption) | (exact start_round _ _) | (simp only [st_round, dfr_round, pn_round]; first | assumption | exact start_round _ _) | fail) only [goS, plainEv, resultsEv, resultListEv, reduceIte, Nat.reduceEqDiff, Option.map_some, Option.map_none, Option.bind_some, List.map_cons, List.map_nil, List.getD_cons_zero, List.getD_cons_succ, List.getElem?_toArray, List.getElem?_cons_zero, List.getElem?_cons_succ, eq_self, beq_self_eq_true, goH, List.append_nil, List.nil_append, rz18, *] | (refine guard_dec (fun _ => ?_) (fun _ => ?_) <;> try (exfalso; omega)) | (refine guard_ndec (fun _ => ?_) (fun _ => ?_) <;> try (exfalso; omega)) | (refine branch_dec (fun _ => ?_) (fun _ => ?_) <;> try (exfalso; omega)) | (refine branch_ndec (fun _ => ?_) (fun _ => ?_) <;> try (exfalso; omega)) | refine guard_nbool (fun _ => ?_) (fun _ => ?_) | refine branch_nbool (fun _ => ?_) (fun _ => ?_) | refine guard_bool (fun _ => ?_) (fun _ => ?_) | refine branch_bool (fun _ => ?_) (fun _ => ?_))
    exact ⟨_, rfl, k2.out⟩
  | true =>
    have e1' := of_decide_eq_true e1
    cases e2 : (timeB at_ && timeB known) with
    | false =>
      have hF : standF l at_ known = (0, false, 1) := by unfold standF; rw [if_pos e1', e2]; rfl
      rw [hF]
      rw [e1'] at c2
      clear e1 e1'
      cases e3 : timeB at_ with
      | false =>
        rw [e3] at w1
        repeat' (first | simp (config := { maxSteps := 4000000 }) (disch := first | assumption | (exact Nat.le_refl _) | omega | (simp only [List.length_cons, List.length_nil, List.length_append, push_len, put_len, len_app] <;> omega) | (simp (disch := (first | assumption | omega | (exact (push_len _ _).symm) | (simp only [push_len, put_len, len_app]; omega) | (refine Nat.le_antisymm ?_ ?_ <;> simp only [push_len, put_len, len_app] <;> omega) | fail)) only [get_push_last, get_push_eq, get_push_ne, get_put_eq, get_put_ne, get_app] <;> first | assumption | rfl) | (simp only [canApp_push, canApp_put]; assumption) | (exact start_round _ _) | (simp only [st_round, dfr_round, pn_round]; first | assumption | exact start_round _ _) | fail) only [goS, plainEv, resultsEv, resultListEv, reduceIte, Nat.reduceEqDiff, Option.map_some, Option.map_none, Option.bind_some, List.map_cons, List.map_nil, List.getD_cons_zero, List.getD_cons_succ, List.getElem?_toArray, List.getElem?_cons_zero, List.getElem?_cons_succ, eq_self, beq_self_eq_true, goH, List.append_nil, List.nil_append, rz18, *] | (refine guard_dec (fun _ => ?_) (fun _ => ?_) <;> try (exfalso; omega)) | (refine guard_ndec (fun _ => ?_) (fun _ => ?_) <;> try (exfalso; omega)) | (refine branch_dec (fun _ => ?_) (fun _ => ?_) <;> try (exfalso; omega)) | (refine branch_ndec (fun _ => ?_) (fun _ => ?_) <;> try (exfalso; omega)) | refine guard_nbool (fun _ => ?_) (fun _ => ?_) | refine branch_nbool (fun _ => ?_) (fun _ => ?_) | refine guard_bool (fun _ => ?_) (fun _ => ?_) | refine branch_bool (fun _ => ?_) (fun _ => ?_))
        exact ⟨_, rfl, k2.out⟩
      | true =>
        rw [e3] at w1 e2
        have e4 : timeB known = false := by simpa using e2
        rw [e4] at w2
        repeat' (first | simp (config := { maxSteps := 4000000 }) (disch := first | assumption | (exact Nat.le_refl _) | omega | (simp only [List.length_cons, List.length_nil, List.length_append, push_len, put_len, len_app] <;> omega) | (simp (disch := (first | assumption | omega | (exact (push_len _ _).symm) | (simp only [push_len, put_len, len_app]; omega) | (refine Nat.le_antisymm ?_ ?_ <;> simp only [push_len, put_len, len_app] <;> omega) | fail)) only [get_push_last, get_push_eq, get_push_ne, get_put_eq, get_put_ne, get_app] <;> first | assumption | rfl) | (simp only [canApp_push, canApp_put]; assumption) | (exact start_round _ _) | (simp only [st_round, dfr_round, pn_round]; first | assumption | exact start_round _ _) | fail) only [goS, plainEv, resultsEv, resultListEv, reduceIte, Nat.reduceEqDiff, Option.map_some, Option.map_none, Option.bind_some, List.map_cons, List.map_nil, List.getD_cons_zero, List.getD_cons_succ, List.getElem?_toArray, List.getElem?_cons_zero, List.getElem?_cons_succ, eq_self, beq_self_eq_true, goH, List.append_nil, List.nil_append, rz18, *] | (refine guard_dec (fun _ => ?_) (fun _ => ?_) <;> try (exfalso; omega)) | (refine guard_ndec (fun _ => ?_) (fun _ => ?_) <;> try (exfalso; omega)) | (refine branch_dec (fun _ => ?_) (fun _ => ?_) <;> try (exfalso; omega)) | (refine branch_ndec (fun _ => ?_) (fun _ => ?_) <;> try (exfalso; omega)) | refine guard_nbool (fun _ => ?_) (fun _ => ?_) | refine branch_nbool (fun _ => ?_) (fun _ => ?_) | refine guard_bool (fun _ => ?_) (fun _ => ?_) | refine branch_bool (fun _ => ?_) (fun _ => ?_))
        exact ⟨_, rfl, k2.out⟩
    | true =>
      have hF : standF l at_ known = ((standL at_ known l).1, (standL at_ known l).2.2, 0) := by unfold standF; rw [if_pos e1', e2]; rfl
      rw [hF]
      rw [e1'] at c2
      clear e1 e1'
      simp only [Bool.and_eq_true] at e2
      rw [e2.1] at w1
      rw [e2.2] at w2
      clear e2
      obtain ⟨no, last, ok, best, hbe, br⟩ := best_BR at_ known l l.length (Nat.le_refl _)
      rw [List.take_length] at hbe
      have hs := bestL_stand at_ known l
      rw [hbe] at hs
      rw [← hs]
      have hfi : forceI at_ known l = best := by unfold forceI; rw [hbe]
      rw [hfi] at c3
      clear hs hbe hF hfi
      cases ok with
      | false =>
        obtain ⟨rfl, rfl⟩ := br.1 rfl
        clear br
        have hm : decide ((-1 : Int) < 0) = true := rfl
        repeat' (first | simp (config := { maxSteps := 4000000 }) (disch := first | assumption | (exact Nat.le_refl _) | omega | (simp only [List.length_cons, List.length_nil, List.length_append, push_len, put_len, len_app] <;> omega) | (simp (disch := (first | assumption | omega | (exact (push_len _ _).symm) | (simp only [push_len, put_len, len_app]; omega) | (refine Nat.le_antisymm ?_ ?_ <;> simp only [push_len, put_len, len_app] <;> omega) | fail)) only [get_push_last, get_push_eq, get_push_ne, get_put_eq, get_put_ne, get_app] <;> first | assumption | rfl) | (simp only [canApp_push, canApp_put]; assumption) | (exact start_round _ _) | (simp only [st_round, dfr_round, pn_round]; first | assumption | exact start_round _ _) | fail) only [goS, plainEv, resultsEv, resultListEv, reduceIte, Nat.reduceEqDiff, Option.map_some, Option.map_none, Option.bind_some, List.map_cons, List.map_nil, List.getD_cons_zero, List.getD_cons_succ, List.getElem?_toArray, List.getElem?_cons_zero, List.getElem?_cons_succ, eq_self, beq_self_eq_true, goH, List.append_nil, List.nil_append, rz18, fp52, vrs, index_list, load_row, *] | (refine guard_dec (fun _ => ?_) (fun _ => ?_) <;> try (exfalso; omega)) | (refine guard_ndec (fun _ => ?_) (fun _ => ?_) <;> try (exfalso; omega)) | (refine branch_dec (fun _ => ?_) (fun _ => ?_) <;> try (exfalso; omega)) | (refine branch_ndec (fun _ => ?_) (fun _ => ?_) <;> try (exfalso; omega)) | refine guard_nbool (fun _ => ?_) (fun _ => ?_) | refine branch_nbool (fun _ => ?_) (fun _ => ?_) | refine guard_bool (fun _ => ?_) (fun _ => ?_) | refine branch_bool (fun _ => ?_) (fun _ => ?_))
        exact ⟨_, rfl, k3.out⟩
      | true =>
        obtain ⟨b, z, rfl, hz2, rfl, rfl⟩ := br.2 rfl
        have hbl : b < l.length := (List.getElem?_eq_some_iff.1 hz2).1
        obtain ⟨z', tz, hz4, hrz, -⟩ := kr.out.get hbl
        rw [hz2] at hz4
        injection hz4 with hz4
        subst hz4
        have h13 := kz.out b hbl
        subst h13
        have hb0 : (0 : Int) ≤ (b : Int) := by omega
        have hb9 : decide ((b : Int) < 0) = false := by simp
        have hb1 : (b : Int) < (rows.length : Int) := by rw [hlen]; omega
        clear br hz2
        repeat' (first | simp (config := { maxSteps := 4000000 }) (disch := first | assumption | (exact Nat.le_refl _) | omega | (simp only [List.length_cons, List.length_nil, List.length_append, push_len, put_len, len_app] <;> omega) | (simp (disch := (first | assumption | omega | (exact (push_len _ _).symm) | (simp only [push_len, put_len, len_app]; omega) | (refine Nat.le_antisymm ?_ ?_ <;> simp only [push_len, put_len, len_app] <;> omega) | fail)) only [get_push_last, get_push_eq, get_push_ne, get_put_eq, get_put_ne, get_app] <;> first | assumption | rfl) | (simp only [canApp_push, canApp_put]; assumption) | (exact start_round _ _) | (simp only [st_round, dfr_round, pn_round]; first | assumption | exact start_round _ _) | fail) only [goS, plainEv, resultsEv, resultListEv, reduceIte, Nat.reduceEqDiff, Option.map_some, Option.map_none, Option.bind_some, List.map_cons, List.map_nil, List.getD_cons_zero, List.getD_cons_succ, List.getElem?_toArray, List.getElem?_cons_zero, List.getElem?_cons_succ, eq_self, beq_self_eq_true, goH, List.append_nil, List.nil_append, rz18, fp52, vrs, index_list, load_row, *] | (refine guard_dec (fun _ => ?_) (fun _ => ?_) <;> try (exfalso; omega)) | (refine guard_ndec (fun _ => ?_) (fun _ => ?_) <;> try (exfalso; omega)) | (refine branch_dec (fun _ => ?_) (fun _ => ?_) <;> try (exfalso; omega)) | (refine branch_ndec (fun _ => ?_) (fun _ => ?_) <;> try (exfalso; omega)) | refine guard_nbool (fun _ => ?_) (fun _ => ?_) | refine branch_nbool (fun _ => ?_) (fun _ => ?_) | refine guard_bool (fun _ => ?_) (fun _ => ?_) | refine branch_bool (fun _ => ?_) (fun _ => ?_))
        exact ⟨_, rfl, k3.out⟩
end Go.Proofs.YtilmhlbjjfgeoaaDoor
end

section
namespace Go.Proofs.YtilmhlbjjfgeoaaDoor
open Go.AE Go.Lex Go.Pol
/-! ### PoliciesVersionsSpec -/
theorem u4 : Tryd.prog.underlying 4 = some .bool := by kernel_rfl
theorem ext_triple (n : Int) (b : Bool) (e : Int) : triple n b e = .tuple [.v (.int .i64 n), .v (.bool b), .v (.int .i64 e)] := rfl
set_option maxHeartbeats 16000000 in
set_option maxRecDepth 100000 in
theorem policiesVersionsSpec_law (k : Tok) (l : List Vs) (rows : List (List AV)) (hr : VRows l rows) (hb : l.length ≤ 9223372036854775807) (at_ known : Int) : ∃ h', W.call 4 [.list k 13 rows, .v (.int .i64 at_), .v (.int .i64 known)] Heap.init = some (.ret (.v (.bool true)), h') ∧ True := by
  have hz : ∀ i : Nat, i < l.length → (13 : Nat) = 13 := fun _ _ => rfl
  have z4 := u4
  obtain ⟨h1, c1, x1⟩ := sane_ev Heap.init rfl
  obtain ⟨h2, c2, x2⟩ := fewV_ev k 13 l rows hr hz hb h1
  refine call_ex rfl Tryd.func4 rfl ?_
  cases hf : fewV l with
  | false =>
    rw [hf] at c2
    clear x1 x2
    repeat' (first | simp (config := { maxSteps := 4000000 }) (disch := first | assumption | (exact Nat.le_refl _) | omega | (simp only [List.length_cons, List.length_nil, List.length_append, push_len, put_len, len_app] <;> omega) | (simp (disch := (first | assumption | omega | (exact (push_len _ _).symm) | (simp only [push_len, put_len, len_app]; omega) | (refine Nat.le_antisymm ?_ ?_ <;> simp only [push_len, put_len, len_app] <;> omega) | fail)) only [get_push_last, get_push_eq, get_push_ne, get_put_eq, get_put_ne, get_app] <;> first | assumption | rfl) | (simp only [canApp_push, canApp_put]; assumption) | (exact start_round _ _) | (simp only [st_round, dfr_round, pn_round]; first | assumption | exact start_round _ _) | fail) only [goS, plainEv, resultsEv, resultListEv, reduceIte, Nat.reduceEqDiff, Option.map_some, Option.map_none, Option.bind_some, List.map_cons, List.map_nil, List.getD_cons_zero, List.getD_cons_succ, List.getElem?_toArray, List.getElem?_cons_zero, List.getElem?_cons_succ, eq_self, beq_self_eq_true, goH, List.append_nil, List.nil_append, rs4, *] | (refine guard_dec (fun _ => ?_) (fun _ => ?_) <;> try (exfalso; omega)) | (refine guard_ndec (fun _ => ?_) (fun _ => ?_) <;> try (exfalso; omega)) | (refine branch_dec (fun _ => ?_) (fun _ => ?_) <;> try (exfalso; omega)) | (refine branch_ndec (fun _ => ?_) (fun _ => ?_) <;> try (exfalso; omega)) | refine guard_nbool (fun _ => ?_) (fun _ => ?_) | refine branch_nbool (fun _ => ?_) (fun _ => ?_) | refine guard_bool (fun _ => ?_) (fun _ => ?_) | refine branch_bool (fun _ => ?_) (fun _ => ?_))
    exact ⟨_, rfl, trivial⟩
  | true =>
    rw [hf] at c2
    have few := fewV_few hf
    have o2 : okHeap h2 = true := x2.ok (x1.ok rfl)
    obtain ⟨h3, c3, x3⟩ := standing_ev k 13 l rows hr hz few hb at_ known h2 o2
    obtain ⟨h4, c4, x4⟩ := refStanding_ev k 13 l rows hr hz few hb at_ known h3 (x3.ok o2)
    obtain ⟨h5, c5, x5⟩ := checkAll_ev k 13 l rows hr hz few hb h4 (x4.ok (x3.ok o2))
    obtain ⟨h6, c6, x6⟩ := refCheckAll_ev k 13 l rows hr hz few hb h5 (x5.ok (x4.ok (x3.ok o2)))
    rw [ext_triple] at c3 c4
    generalize (standF l at_ known).1 = q1 at c3 c4
    generalize (standF l at_ known).2.1 = q2 at c3 c4
    generalize (standF l at_ known).2.2 = q3 at c3 c4
    generalize checkAllF l = q4 at c5 c6
    clear x1 x2 x3 x4 x5 x6 o2 few hf
    repeat' (first | simp (config := { maxSteps := 4000000 }) (disch := first | assumption | (exact Nat.le_refl _) | omega | (simp only [List.length_cons, List.length_nil, List.length_append, push_len, put_len, len_app] <;> omega) | (simp (disch := (first | assumption | omega | (exact (push_len _ _).symm) | (simp only [push_len, put_len, len_app]; omega) | (refine Nat.le_antisymm ?_ ?_ <;> simp only [push_len, put_len, len_app] <;> omega) | fail)) only [get_push_last, get_push_eq, get_push_ne, get_put_eq, get_put_ne, get_app] <;> first | assumption | rfl) | (simp only [canApp_push, canApp_put]; assumption) | (exact start_round _ _) | (simp only [st_round, dfr_round, pn_round]; first | assumption | exact start_round _ _) | fail) only [goS, plainEv, resultsEv, resultListEv, reduceIte, Nat.reduceEqDiff, Option.map_some, Option.map_none, Option.bind_some, List.map_cons, List.map_nil, List.getD_cons_zero, List.getD_cons_succ, List.getElem?_toArray, List.getElem?_cons_zero, List.getElem?_cons_succ, eq_self, beq_self_eq_true, goH, List.append_nil, List.nil_append, rs4, bin_beql, *] | (refine guard_dec (fun _ => ?_) (fun _ => ?_) <;> try (exfalso; omega)) | (refine guard_ndec (fun _ => ?_) (fun _ => ?_) <;> try (exfalso; omega)) | (refine branch_dec (fun _ => ?_) (fun _ => ?_) <;> try (exfalso; omega)) | (refine branch_ndec (fun _ => ?_) (fun _ => ?_) <;> try (exfalso; omega)) | refine guard_nbool (fun _ => ?_) (fun _ => ?_) | refine branch_nbool (fun _ => ?_) (fun _ => ?_) | refine guard_bool (fun _ => ?_) (fun _ => ?_) | refine branch_bool (fun _ => ?_) (fun _ => ?_))
    all_goals exact ⟨_, rfl, trivial⟩
end Go.Proofs.YtilmhlbjjfgeoaaDoor
end
