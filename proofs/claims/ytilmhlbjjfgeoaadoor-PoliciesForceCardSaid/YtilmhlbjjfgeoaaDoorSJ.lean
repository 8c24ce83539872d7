/-
  Part of the proof: SJ.
-/
import Derived.Test.YtilmhlbjjfgeoaaDoorSI
set_option linter.unusedSimpArgs false
set_option linter.unusedVariables false
set_option linter.constructorNameAsVariable false
section
namespace Go.Proofs.YtilmhlbjjfgeoaaDoor
open Go.AE Go.Lex Go.Pol
/-! ### Versions, of the reference -/
def fewV (l : List Vs) : Bool := !((decide (6 < l.length) && decide (l.length ≤ 256)) || decide (270 < l.length)) && (l.take 10).all fun x => fewP x.pol
theorem fewV_few {l : List Vs} (h : fewV l = true) : l.length ≤ 256 → VFew l := by
  intro hl x hx
  unfold fewV at h
  simp only [Bool.and_eq_true, Bool.not_eq_true', Bool.or_eq_false_iff, Bool.and_eq_false_iff, decide_eq_false_iff_not, List.all_eq_true] at h
  have : l.length ≤ 6 := by omega
  rw [List.take_of_length_le (by omega)] at h
  exact few_few (h.2 x hx)
theorem rs16 : Tryd.f16.results.toList = [.tmp 2] := by kernel_rfl
set_option maxHeartbeats 8000000 in
set_option maxRecDepth 100000 in
theorem fewV_ev (tk : Tok) (sv : Nat) (l : List Vs) (rows : List (List AV)) (hr : VRows l rows) (hz : ∀ i : Nat, i < l.length → sv = 13) (hb : l.length ≤ 9223372036854775807) (h : Heap) : Says W 16 [.list tk sv rows] h (.ret (.v (.bool (fewV l)))) := by
  have u36 := Tryd.underlying36
  have a28 := ag28; have s52 := sz52; have s28 := sz28
  have hlen := hr.1
  have kr := Keep.mk hr
  have kz := Keep.mk hz
  have kx0 := Keep.mk (Ext.refl h)
  have bad : ∀ (hh : Heap), Ext h hh → fewV l = false → ∃ h', (some (Res.ret (AV.v (.bool false)), hh) : Option (Res × Heap)) = some (.ret (.v (.bool (fewV l))), h') ∧ Ext h h' := fun hh hx q => ⟨hh, by rw [q], hx⟩
  have kbad := Keep.mk bad
  clear hr hz bad
  refine call_ex rfl Tryd.func16 rfl ?_
  cases e0 : ((decide (6 < l.length) && decide (l.length ≤ 256)) || decide (270 < l.length)) with
  | true =>
    have hF : fewV l = false := by unfold fewV; rw [e0]; rfl
    have kfin := Keep.mk (fun hh hx => kbad.out hh hx hF)
    have e0' : (6 < l.length ∧ l.length ≤ 256) ∨ 270 < l.length := by simpa using e0
    clear e0 hF
    repeat' (first | simp (config := { maxSteps := 4000000 }) (disch := first | assumption | (exact Nat.le_refl _) | omega | (simp only [List.length_cons, List.length_nil, List.length_append, push_len, put_len, len_app] <;> omega) | (simp (disch := (first | assumption | omega | (exact (push_len _ _).symm) | (simp only [push_len, put_len, len_app]; omega) | (refine Nat.le_antisymm ?_ ?_ <;> simp only [push_len, put_len, len_app] <;> omega) | fail)) only [get_push_last, get_push_eq, get_push_ne, get_put_eq, get_put_ne, get_app] <;> first | assumption | rfl) | (simp only [canApp_push, canApp_put]; assumption) | (exact start_round _ _) | (simp only [st_round, dfr_round, pn_round]; first | assumption | exact start_round _ _) | fail) only [goS, plainEv, resultsEv, resultListEv, reduceIte, Nat.reduceEqDiff, Option.map_some, Option.map_none, Option.bind_some, List.map_cons, List.map_nil, List.getD_cons_zero, List.getD_cons_succ, List.getElem?_toArray, List.getElem?_cons_zero, List.getElem?_cons_succ, eq_self, beq_self_eq_true, goH, List.append_nil, List.nil_append, rs16, *] | (refine guard_dec (fun _ => ?_) (fun _ => ?_) <;> try (exfalso; omega)) | (refine guard_ndec (fun _ => ?_) (fun _ => ?_) <;> try (exfalso; omega)) | (refine branch_dec (fun _ => ?_) (fun _ => ?_) <;> try (exfalso; omega)) | (refine branch_ndec (fun _ => ?_) (fun _ => ?_) <;> try (exfalso; omega)) | refine guard_nbool (fun _ => ?_) (fun _ => ?_) | refine branch_nbool (fun _ => ?_) (fun _ => ?_) | refine guard_bool (fun _ => ?_) (fun _ => ?_) | refine branch_bool (fun _ => ?_) (fun _ => ?_))
    all_goals exact kfin.out _ kx0.out
  | false =>
    have e0' : ¬ ((6 < l.length ∧ l.length ≤ 256) ∨ 270 < l.length) := by
      intro q
      have : ((decide (6 < l.length) && decide (l.length ≤ 256)) || decide (270 < l.length)) = true := by simpa using q
      rw [e0] at this; cases this
    have hF : fewV l = (l.take 10).all fun x => fewP x.pol := by unfold fewV; rw [e0]; rfl
    have kF := Keep.mk hF
    clear e0 hF
    repeat' (first | simp (config := { maxSteps := 4000000 }) (disch := first | assumption | (exact Nat.le_refl _) | omega | (simp only [List.length_cons, List.length_nil, List.length_append, push_len, put_len, len_app] <;> omega) | (simp (disch := (first | assumption | omega | (exact (push_len _ _).symm) | (simp only [push_len, put_len, len_app]; omega) | (refine Nat.le_antisymm ?_ ?_ <;> simp only [push_len, put_len, len_app] <;> omega) | fail)) only [get_push_last, get_push_eq, get_push_ne, get_put_eq, get_put_ne, get_app] <;> first | assumption | rfl) | (simp only [canApp_push, canApp_put]; assumption) | (exact start_round _ _) | (simp only [st_round, dfr_round, pn_round]; first | assumption | exact start_round _ _) | fail) only [goS, plainEv, resultsEv, resultListEv, reduceIte, Nat.reduceEqDiff, Option.map_some, Option.map_none, Option.bind_some, List.map_cons, List.map_nil, List.getD_cons_zero, List.getD_cons_succ, List.getElem?_toArray, List.getElem?_cons_zero, List.getElem?_cons_succ, eq_self, beq_self_eq_true, goH, List.append_nil, List.nil_append, rs16, *] | (refine guard_dec (fun _ => ?_) (fun _ => ?_) <;> try (exfalso; omega)) | (refine guard_ndec (fun _ => ?_) (fun _ => ?_) <;> try (exfalso; omega)) | (refine branch_dec (fun _ => ?_) (fun _ => ?_) <;> try (exfalso; omega)) | (refine branch_ndec (fun _ => ?_) (fun _ => ?_) <;> try (exfalso; omega)) | refine guard_nbool (fun _ => ?_) (fun _ => ?_) | refine branch_nbool (fun _ => ?_) (fun _ => ?_) | refine guard_bool (fun _ => ?_) (fun _ => ?_) | refine branch_bool (fun _ => ?_) (fun _ => ?_))
    all_goals
      refine run_loop (fun m e h' => ∃ (i : Nat), i ≤ l.length ∧ i ≤ 10 ∧ m = l.length - i ∧ e.get 0 = .list tk sv rows ∧ e.get 3 = .v (.int .i64 i) ∧ e.defers = [] ∧ Ext h h' ∧ ∀ x ∈ l.take i, fewP x.pol = true) ?_ l.length _ _ ?_
      · rintro m e h' ⟨i, hi, hi10, rfl, g0, g3, hd, hx, hno⟩
        have kx := Keep.mk hx
        have kno := Keep.mk hno
        clear hx hno
        by_cases hlt : i < l.length ∧ i < 10
        · obtain ⟨y, t, hy, hry, oky⟩ := kr.out.get hlt.1
          have h13 := kz.out i hlt.1
          subst h13
          have hlt3 : (i : Int) < (rows.length : Int) := by rw [hlen]; omega
          have hlt5 : (i : Int) < (l.length : Int) := by omega
          have vf := @vrow_fit10 y t
          obtain ⟨h4, c4, hx4⟩ := fewP_ev y.pol t oky h'
          have kx4 := Keep.mk (kx.out.trans hx4)
          clear hx4 oky
          cases e4 : fewP y.pol with
          | true =>
            rw [e4] at c4
            have ke4 := Keep.mk e4
            clear e4
            repeat' (first | simp (config := { maxSteps := 4000000 }) (disch := first | assumption | (exact Nat.le_refl _) | omega | (simp only [List.length_cons, List.length_nil, List.length_append, push_len, put_len, len_app] <;> omega) | (simp (disch := (first | assumption | omega | (exact (push_len _ _).symm) | (simp only [push_len, put_len, len_app]; omega) | (refine Nat.le_antisymm ?_ ?_ <;> simp only [push_len, put_len, len_app] <;> omega) | fail)) only [get_push_last, get_push_eq, get_push_ne, get_put_eq, get_put_ne, get_app] <;> first | assumption | rfl) | (simp only [canApp_push, canApp_put]; assumption) | (exact start_round _ _) | (simp only [st_round, dfr_round, pn_round]; first | assumption | exact start_round _ _) | fail) only [goS, plainEv, resultsEv, resultListEv, reduceIte, Nat.reduceEqDiff, Option.map_some, Option.map_none, Option.bind_some, List.map_cons, List.map_nil, List.getD_cons_zero, List.getD_cons_succ, List.getElem?_toArray, List.getElem?_cons_zero, List.getElem?_cons_succ, eq_self, beq_self_eq_true, goH, List.append_nil, List.nil_append, rs16, fp52, vrs, index_list, load_row_agg, *] | (refine guard_dec (fun _ => ?_) (fun _ => ?_) <;> try (exfalso; omega)) | (refine guard_ndec (fun _ => ?_) (fun _ => ?_) <;> try (exfalso; omega)) | (refine branch_dec (fun _ => ?_) (fun _ => ?_) <;> try (exfalso; omega)) | (refine branch_ndec (fun _ => ?_) (fun _ => ?_) <;> try (exfalso; omega)) | refine guard_nbool (fun _ => ?_) (fun _ => ?_) | refine branch_nbool (fun _ => ?_) (fun _ => ?_) | refine guard_bool (fun _ => ?_) (fun _ => ?_) | refine branch_bool (fun _ => ?_) (fun _ => ?_))
            refine ⟨l.length - (i + 1), by omega, i + 1, by omega, by omega, rfl, (by first | trivial | (simp; done) | (simp; omega)), (by first | trivial | (simp; done) | (simp; omega)), (by first | trivial | (simp; done) | (simp; omega)), kx4.out, fun x hx => ?_⟩
            obtain ⟨hj, rfl⟩ := List.getElem?_eq_some_iff.1 hy
            rw [List.take_succ_eq_append_getElem hj] at hx
            rcases List.mem_append.1 hx with q | q
            · exact kno.out x q
            · simp at q; subst q; exact ke4.out
          | false =>
            rw [e4] at c4
            have hF : fewV l = false := by
              rw [kF.out, Bool.eq_false_iff]
              intro q
              have := List.all_eq_true.1 q y (by
                refine List.mem_of_getElem? (i := i) ?_
                rw [List.getElem?_take_of_lt hlt.2]; exact hy)
              rw [e4] at this; cases this
            have kfin := Keep.mk (fun hh hx => kbad.out hh hx hF)
            clear hF e4
            repeat' (first | simp (config := { maxSteps := 4000000 }) (disch := first | assumption | (exact Nat.le_refl _) | omega | (simp only [List.length_cons, List.length_nil, List.length_append, push_len, put_len, len_app] <;> omega) | (simp (disch := (first | assumption | omega | (exact (push_len _ _).symm) | (simp only [push_len, put_len, len_app]; omega) | (refine Nat.le_antisymm ?_ ?_ <;> simp only [push_len, put_len, len_app] <;> omega) | fail)) only [get_push_last, get_push_eq, get_push_ne, get_put_eq, get_put_ne, get_app] <;> first | assumption | rfl) | (simp only [canApp_push, canApp_put]; assumption) | (exact start_round _ _) | (simp only [st_round, dfr_round, pn_round]; first | assumption | exact start_round _ _) | fail) only [goS, plainEv, resultsEv, resultListEv, reduceIte, Nat.reduceEqDiff, Option.map_some, Option.map_none, Option.bind_some, List.map_cons, List.map_nil, List.getD_cons_zero, List.getD_cons_succ, List.getElem?_toArray, List.getElem?_cons_zero, List.getElem?_cons_succ, eq_self, beq_self_eq_true, goH, List.append_nil, List.nil_append, rs16, fp52, vrs, index_list, load_row_agg, *] | (refine guard_dec (fun _ => ?_) (fun _ => ?_) <;> try (exfalso; omega)) | (refine guard_ndec (fun _ => ?_) (fun _ => ?_) <;> try (exfalso; omega)) | (refine branch_dec (fun _ => ?_) (fun _ => ?_) <;> try (exfalso; omega)) | (refine branch_ndec (fun _ => ?_) (fun _ => ?_) <;> try (exfalso; omega)) | refine guard_nbool (fun _ => ?_) (fun _ => ?_) | refine branch_nbool (fun _ => ?_) (fun _ => ?_) | refine guard_bool (fun _ => ?_) (fun _ => ?_) | refine branch_bool (fun _ => ?_) (fun _ => ?_))
            exact kfin.out _ kx4.out
        · have hF : fewV l = true := by
            rw [kF.out]
            refine List.all_eq_true.2 fun x hx => kno.out x ?_
            have : l.take 10 = l.take i := by
              rcases Nat.lt_or_ge i l.length with w | w
              · have : i = 10 := by omega
                rw [this]
              · rw [List.take_of_length_le (by omega), List.take_of_length_le (by omega)]
            rw [← this]; exact hx
          rw [hF]
          by_cases h10 : i < l.length
          · have hlt5 : (i : Int) < (l.length : Int) := by omega
            have hlt6 : ¬ ((i : Int) < 10) := by omega
            repeat' (first | simp (config := { maxSteps := 4000000 }) (disch := first | assumption | (exact Nat.le_refl _) | omega | (simp only [List.length_cons, List.length_nil, List.length_append, push_len, put_len, len_app] <;> omega) | (simp (disch := (first | assumption | omega | (exact (push_len _ _).symm) | (simp only [push_len, put_len, len_app]; omega) | (refine Nat.le_antisymm ?_ ?_ <;> simp only [push_len, put_len, len_app] <;> omega) | fail)) only [get_push_last, get_push_eq, get_push_ne, get_put_eq, get_put_ne, get_app] <;> first | assumption | rfl) | (simp only [canApp_push, canApp_put]; assumption) | (exact start_round _ _) | (simp only [st_round, dfr_round, pn_round]; first | assumption | exact start_round _ _) | fail) only [goS, plainEv, resultsEv, resultListEv, reduceIte, Nat.reduceEqDiff, Option.map_some, Option.map_none, Option.bind_some, List.map_cons, List.map_nil, List.getD_cons_zero, List.getD_cons_succ, List.getElem?_toArray, List.getElem?_cons_zero, List.getElem?_cons_succ, eq_self, beq_self_eq_true, goH, List.append_nil, List.nil_append, rs16, *] | (refine guard_dec (fun _ => ?_) (fun _ => ?_) <;> try (exfalso; omega)) | (refine guard_ndec (fun _ => ?_) (fun _ => ?_) <;> try (exfalso; omega)) | (refine branch_dec (fun _ => ?_) (fun _ => ?_) <;> try (exfalso; omega)) | (refine branch_ndec (fun _ => ?_) (fun _ => ?_) <;> try (exfalso; omega)) | refine guard_nbool (fun _ => ?_) (fun _ => ?_) | refine branch_nbool (fun _ => ?_) (fun _ => ?_) | refine guard_bool (fun _ => ?_) (fun _ => ?_) | refine branch_bool (fun _ => ?_) (fun _ => ?_))
            exact ⟨_, rfl, kx.out⟩
          · have hlt5 : ¬ ((i : Int) < (l.length : Int)) := by omega
            repeat' (first | simp (config := { maxSteps := 4000000 }) (disch := first | assumption | (exact Nat.le_refl _) | omega | (simp only [List.length_cons, List.length_nil, List.length_append, push_len, put_len, len_app] <;> omega) | (simp (disch := (first | assumption | omega | (exact (push_len _ _).symm) | (simp only [push_len, put_len, len_app]; omega) | (refine Nat.le_antisymm ?_ ?_ <;> simp only [push_len, put_len, len_app] <;> omega) | fail)) only [get_push_last, get_push_eq, get_push_ne, get_put_eq, get_put_ne, get_app] <;> first | assumption | rfl) | (simp only [canApp_push, canApp_put]; assumption) | (exact start_round _ _) | (simp only [st_round, dfr_round, pn_round]; first | assumption | exact start_round _ _) | fail) only [goS, plainEv, resultsEv, resultListEv, reduceIte, Nat.reduceEqDiff, Option.map_some, Option.map_none, Option.bind_some, List.map_cons, List.map_nil, List.getD_cons_zero, List.getD_cons_succ, List.getElem?_toArray, List.getElem?_cons_zero, List.getElem?_cons_succ, eq_self, beq_self_eq_true, goH, List.append_nil, List.nil_append, rs16, *] | (refine guard_dec (fun _ => ?_) (fun _ => ?_) <;> try (exfalso; omega)) | (refine guard_ndec (fun _ => ?_) (fun _ => ?_) <;> try (exfalso; omega)) | (refine branch_dec (fun _ => ?_) (fun _ => ?_) <;> try (exfalso; omega)) | (refine branch_ndec (fun _ => ?_) (fun _ => ?_) <;> try (exfalso; omega)) | refine guard_nbool (fun _ => ?_) (fun _ => ?_) | refine branch_nbool (fun _ => ?_) (fun _ => ?_) | refine guard_bool (fun _ => ?_) (fun _ => ?_) | refine branch_bool (fun _ => ?_) (fun _ => ?_))
            exact ⟨_, rfl, kx.out⟩
      · refine ⟨0, Nat.zero_le _, Nat.zero_le _, rfl, ?_, ?_, ?_, kx0.out, fun x hx => by simp at hx⟩ <;> simp only [goS, plainEv, resultsEv, resultListEv, reduceIte, Nat.reduceEqDiff, Option.map_some, Option.map_none, Option.bind_some, List.map_cons, List.map_nil, List.getD_cons_zero, List.getD_cons_succ, List.getElem?_toArray, List.getElem?_cons_zero, List.getElem?_cons_succ, eq_self, beq_self_eq_true, goH] <;> rfl
end Go.Proofs.YtilmhlbjjfgeoaaDoor
end

section
namespace Go.Proofs.YtilmhlbjjfgeoaaDoor
open Go.AE Go.Lex Go.Pol
/-! ### CheckAll, of the reference -/
theorem verOk_eq {last : Int} {i : Nat} {y : Vs} (h0 : i = 0 → last = -1) (h1 : 0 < i → 0 ≤ last) : verOk last y = ((!decide (y.no < 0) && (!decide (1048576 < y.no) && !(decide ((0 : Int) < (i : Int)) && decide (y.no ≤ last)))) && (timeB y.at_ && (timeB y.known && decide (checkP y.pol = 0)))) := by
  unfold verOk
  congr 1
  rw [Bool.eq_iff_iff]
  simp only [Bool.and_eq_true, Bool.not_eq_true', Bool.and_eq_false_iff, decide_eq_true_eq, decide_eq_false_iff_not]
  rcases Nat.eq_zero_or_pos i with q | q
  · have := h0 q; omega
  · have := h1 q; omega
set_option maxHeartbeats 32000000 in
set_option maxRecDepth 100000 in
theorem refCheckAll_ev (tk : Tok) (sv : Nat) (l : List Vs) (rows : List (List AV)) (hr : VRows l rows) (hz : ∀ i : Nat, i < l.length → sv = 13) (few : l.length ≤ 256 → VFew l) (hb : l.length ≤ 9223372036854775807) (h : Heap) (hok : okHeap h = true) : Says W 20 [.list tk sv rows] h (.ret (.v (.int .i64 (checkAllF l)))) := by
  have u36 := Tryd.underlying36
  have g3a := ag3; have a28 := ag28; have a52 := ag52; have s52 := sz52; have s28 := sz28; have z52 := zc52
  have hlen := hr.1
  have kr := Keep.mk hr
  have kz := Keep.mk hz
  have kokh := Keep.mk hok
  have kx0 := Keep.mk (Ext.refl h)
  refine call_ex rfl Tryd.func20 rfl ?_
  by_cases hbig : 256 < l.length
  · have hbig' : (256 : Int) < (rows.length : Int) := by rw [hlen]; omega
    have hF : checkAllF l = 2 := by unfold checkAllF; rw [if_pos hbig]
    rw [hF]
    clear few hz hr hok
    repeat' (first | simp (config := { maxSteps := 4000000 }) (disch := first | assumption | (exact Nat.le_refl _) | omega | (simp only [List.length_cons, List.length_nil, List.length_append, push_len, put_len, len_app] <;> omega) | (simp (disch := (first | assumption | omega | (exact (push_len _ _).symm) | (simp only [push_len, put_len, len_app]; omega) | (refine Nat.le_antisymm ?_ ?_ <;> simp only [push_len, put_len, len_app] <;> omega) | fail)) only [get_push_last, get_push_eq, get_push_ne, get_put_eq, get_put_ne, get_app] <;> first | assumption | rfl) | (simp only [canApp_push, canApp_put]; assumption) | (exact start_round _ _) | (simp only [st_round, dfr_round, pn_round]; first | assumption | exact start_round _ _) | fail) only [goS, plainEv, resultsEv, resultListEv, reduceIte, Nat.reduceEqDiff, Option.map_some, Option.map_none, Option.bind_some, List.map_cons, List.map_nil, List.getD_cons_zero, List.getD_cons_succ, List.getElem?_toArray, List.getElem?_cons_zero, List.getElem?_cons_succ, eq_self, beq_self_eq_true, goH, List.append_nil, List.nil_append, rs20, *] | (refine guard_dec (fun _ => ?_) (fun _ => ?_) <;> try (exfalso; omega)) | (refine guard_ndec (fun _ => ?_) (fun _ => ?_) <;> try (exfalso; omega)) | (refine branch_dec (fun _ => ?_) (fun _ => ?_) <;> try (exfalso; omega)) | (refine branch_ndec (fun _ => ?_) (fun _ => ?_) <;> try (exfalso; omega)) | refine guard_nbool (fun _ => ?_) (fun _ => ?_) | refine branch_nbool (fun _ => ?_) (fun _ => ?_) | refine guard_bool (fun _ => ?_) (fun _ => ?_) | refine branch_bool (fun _ => ?_) (fun _ => ?_))
    exact ⟨_, rfl, kx0.out⟩
  · have kfew := Keep.mk (few (by omega))
    have hbig' : ¬ (256 : Int) < (rows.length : Int) := by rw [hlen]; omega
    have hF : checkAllF l = if versOk (-1) l = true then 0 else 200 := by unfold checkAllF; rw [if_neg hbig]
    rw [hF]
    have bad : ∀ (hh : Heap), Ext h hh → versOk (-1) l = false → ∃ h', (some (Res.ret (AV.v (.int .i64 200)), hh) : Option (Res × Heap)) = some (.ret (.v (.int .i64 (if versOk (-1) l = true then 0 else 200))), h') ∧ Ext h h' := fun hh hx q => ⟨hh, by rw [q]; rfl, hx⟩
    have kbad := Keep.mk bad
    clear bad hF few hz hr hok
    repeat' (first | simp (config := { maxSteps := 4000000 }) (disch := first | assumption | (exact Nat.le_refl _) | omega | (simp only [List.length_cons, List.length_nil, List.length_append, push_len, put_len, len_app] <;> omega) | (simp (disch := (first | assumption | omega | (exact (push_len _ _).symm) | (simp only [push_len, put_len, len_app]; omega) | (refine Nat.le_antisymm ?_ ?_ <;> simp only [push_len, put_len, len_app] <;> omega) | fail)) only [get_push_last, get_push_eq, get_push_ne, get_put_eq, get_put_ne, get_app] <;> first | assumption | rfl) | (simp only [canApp_push, canApp_put]; assumption) | (exact start_round _ _) | (simp only [st_round, dfr_round, pn_round]; first | assumption | exact start_round _ _) | fail) only [goS, plainEv, resultsEv, resultListEv, reduceIte, Nat.reduceEqDiff, Option.map_some, Option.map_none, Option.bind_some, List.map_cons, List.map_nil, List.getD_cons_zero, List.getD_cons_succ, List.getElem?_toArray, List.getElem?_cons_zero, List.getElem?_cons_succ, eq_self, beq_self_eq_true, goH, List.append_nil, List.nil_append, rs20, *] | (refine guard_dec (fun _ => ?_) (fun _ => ?_) <;> try (exfalso; omega)) | (refine guard_ndec (fun _ => ?_) (fun _ => ?_) <;> try (exfalso; omega)) | (refine branch_dec (fun _ => ?_) (fun _ => ?_) <;> try (exfalso; omega)) | (refine branch_ndec (fun _ => ?_) (fun _ => ?_) <;> try (exfalso; omega)) | refine guard_nbool (fun _ => ?_) (fun _ => ?_) | refine branch_nbool (fun _ => ?_) (fun _ => ?_) | refine guard_bool (fun _ => ?_) (fun _ => ?_) | refine branch_bool (fun _ => ?_) (fun _ => ?_))
    refine run_loop (fun m e h' => ∃ (i : Nat) (last : Int), i ≤ l.length ∧ m = l.length - i ∧ e.get 0 = .list tk sv rows ∧ e.get 3 = .v (.int .i64 i) ∧ e.defers = [] ∧ Ext h h' ∧ okHeap h' = true ∧ (i = 0 → last = -1) ∧ (0 < i → 0 ≤ last ∧ ∃ w, l[i - 1]? = some w ∧ w.no = last) ∧ versOk (-1) l = versOk last (l.drop i)) ?_ l.length _ _ ?_
    · rintro m e h' ⟨i, last, hi, rfl, g0, g3, hd, hx, hok', l0, l1, hno⟩
      have kx := Keep.mk hx
      have kno := Keep.mk hno
      have kok' := Keep.mk hok'
      have kl0 := Keep.mk l0
      have kl1 := Keep.mk l1
      clear hx hno hok' l0 l1
      by_cases hlt : i < l.length
      · obtain ⟨y, t, hy, hry, oky⟩ := kr.out.get hlt
        have h13 := kz.out i hlt
        subst h13
        have hlt3 : (i : Int) < (rows.length : Int) := by rw [hlen]; omega
        have hlt5 : (i : Int) < (l.length : Int) := by omega
        have vf := @vrow_fit13 y t
        have hdr : l.drop i = y :: l.drop (i + 1) := by
          obtain ⟨hj, rfl⟩ := List.getElem?_eq_some_iff.1 hy
          exact List.drop_eq_getElem_cons hj
        have hv : versOk last (l.drop i) = (verOk last y && versOk y.no (l.drop (i + 1))) := by rw [hdr, versOk]
        have hvno : verOk last y = false → versOk (-1) l = false := by intro q; rw [kno.out, hv, q]; rfl
        have hve := @verOk_eq last i y kl0.out (fun q => (kl1.out q).1)
        have kvno := Keep.mk (fun q => hvno (by rw [hve]; exact q))
        have kve := Keep.mk hve
        have khv := Keep.mk hv
        have kyy := Keep.mk hy
        obtain ⟨h4, c4, hx4⟩ := refCheck_ev y.pol t oky (kfew.out y (List.mem_of_getElem? hy)) (h'.push (vrow y t)) kok'.out
        have kx4 := Keep.mk ((kx.out.trans (.push _ (vrow y t))).trans hx4)
        have kx3 := Keep.mk (kx.out.trans (.push _ (vrow y t)))
        have kok4 := Keep.mk (hx4.ok kok'.out)
        have w2 := time_ev y.at_
        have w3 := time_ev y.known
        -- the one before
        have prev : ∀ d0 : Bool, decide ((0 : Int) < (i : Int)) = d0 → d0 = true → ∃ (w : Vs) (tw : PT), rows[i - 1]? = some (vrow w tw) ∧ w.no = last := by
          intro d0 q1 q2
          rw [q2] at q1
          have q1 := of_decide_eq_true q1
          obtain ⟨w, tw, hw, hrw, -⟩ := kr.out.get (show i - 1 < l.length by omega)
          obtain ⟨w', hw', e⟩ := (kl1.out (by omega)).2
          rw [hw] at hw'
          injection hw' with hw'
          subst hw'
          exact ⟨w, tw, hrw, e⟩
        have kprev := Keep.mk prev
        clear hx4 hdr hv hvno oky hve hy prev
        cases a1 : decide (y.no < 0) with
        | true =>
          have kfin := Keep.mk (fun hh hx => kbad.out hh hx (kvno.out (by rw [a1]; rfl)))
          repeat' (first | simp (config := { maxSteps := 4000000 }) (disch := first | assumption | (exact Nat.le_refl _) | omega | (simp only [List.length_cons, List.length_nil, List.length_append, push_len, put_len, len_app] <;> omega) | (simp (disch := (first | assumption | omega | (exact (push_len _ _).symm) | (simp only [push_len, put_len, len_app]; omega) | (refine Nat.le_antisymm ?_ ?_ <;> simp only [push_len, put_len, len_app] <;> omega) | fail)) only [get_push_last, get_push_eq, get_push_ne, get_put_eq, get_put_ne, get_app] <;> first | assumption | rfl) | (simp only [canApp_push, canApp_put]; assumption) | (exact start_round _ _) | (simp only [st_round, dfr_round, pn_round]; first | assumption | exact start_round _ _) | fail) only [goS, plainEv, resultsEv, resultListEv, reduceIte, Nat.reduceEqDiff, Option.map_some, Option.map_none, Option.bind_some, List.map_cons, List.map_nil, List.getD_cons_zero, List.getD_cons_succ, List.getElem?_toArray, List.getElem?_cons_zero, List.getElem?_cons_succ, eq_self, beq_self_eq_true, goH, List.append_nil, List.nil_append, rs20, fp52, vrs, load52, load52_3, store52, index_list, load_row_agg, put_push_eq, put_push_ne, push_len, *] | (refine guard_dec (fun _ => ?_) (fun _ => ?_) <;> try (exfalso; omega)) | (refine guard_ndec (fun _ => ?_) (fun _ => ?_) <;> try (exfalso; omega)) | (refine branch_dec (fun _ => ?_) (fun _ => ?_) <;> try (exfalso; omega)) | (refine branch_ndec (fun _ => ?_) (fun _ => ?_) <;> try (exfalso; omega)) | refine run_draw (by kernel_rfl) ?_ | refine guard_nbool (fun _ => ?_) (fun _ => ?_) | refine branch_nbool (fun _ => ?_) (fun _ => ?_) | refine guard_bool (fun _ => ?_) (fun _ => ?_) | refine branch_bool (fun _ => ?_) (fun _ => ?_))
          exact kfin.out _ kx3.out
        | false =>
          cases a2 : decide (1048576 < y.no) with
          | true =>
            have kfin := Keep.mk (fun hh hx => kbad.out hh hx (kvno.out (by rw [a1, a2]; rfl)))
            repeat' (first | simp (config := { maxSteps := 4000000 }) (disch := first | assumption | (exact Nat.le_refl _) | omega | (simp only [List.length_cons, List.length_nil, List.length_append, push_len, put_len, len_app] <;> omega) | (simp (disch := (first | assumption | omega | (exact (push_len _ _).symm) | (simp only [push_len, put_len, len_app]; omega) | (refine Nat.le_antisymm ?_ ?_ <;> simp only [push_len, put_len, len_app] <;> omega) | fail)) only [get_push_last, get_push_eq, get_push_ne, get_put_eq, get_put_ne, get_app] <;> first | assumption | rfl) | (simp only [canApp_push, canApp_put]; assumption) | (exact start_round _ _) | (simp only [st_round, dfr_round, pn_round]; first | assumption | exact start_round _ _) | fail) only [goS, plainEv, resultsEv, resultListEv, reduceIte, Nat.reduceEqDiff, Option.map_some, Option.map_none, Option.bind_some, List.map_cons, List.map_nil, List.getD_cons_zero, List.getD_cons_succ, List.getElem?_toArray, List.getElem?_cons_zero, List.getElem?_cons_succ, eq_self, beq_self_eq_true, goH, List.append_nil, List.nil_append, rs20, fp52, vrs, load52, load52_3, store52, index_list, load_row_agg, put_push_eq, put_push_ne, push_len, *] | (refine guard_dec (fun _ => ?_) (fun _ => ?_) <;> try (exfalso; omega)) | (refine guard_ndec (fun _ => ?_) (fun _ => ?_) <;> try (exfalso; omega)) | (refine branch_dec (fun _ => ?_) (fun _ => ?_) <;> try (exfalso; omega)) | (refine branch_ndec (fun _ => ?_) (fun _ => ?_) <;> try (exfalso; omega)) | refine run_draw (by kernel_rfl) ?_ | refine guard_nbool (fun _ => ?_) (fun _ => ?_) | refine branch_nbool (fun _ => ?_) (fun _ => ?_) | refine guard_bool (fun _ => ?_) (fun _ => ?_) | refine branch_bool (fun _ => ?_) (fun _ => ?_))
            exact kfin.out _ kx3.out
          | false =>
            cases a0 : decide ((0 : Int) < (i : Int)) with
            | false =>
              cases e2 : timeB y.at_ with
              | false =>
                have kfin := Keep.mk (fun hh hx => kbad.out hh hx (kvno.out (by rw [a1, a2, a0, e2]; simp)))
                rw [e2] at w2
                repeat' (first | simp (config := { maxSteps := 4000000 }) (disch := first | assumption | (exact Nat.le_refl _) | omega | (simp only [List.length_cons, List.length_nil, List.length_append, push_len, put_len, len_app] <;> omega) | (simp (disch := (first | assumption | omega | (exact (push_len _ _).symm) | (simp only [push_len, put_len, len_app]; omega) | (refine Nat.le_antisymm ?_ ?_ <;> simp only [push_len, put_len, len_app] <;> omega) | fail)) only [get_push_last, get_push_eq, get_push_ne, get_put_eq, get_put_ne, get_app] <;> first | assumption | rfl) | (simp only [canApp_push, canApp_put]; assumption) | (exact start_round _ _) | (simp only [st_round, dfr_round, pn_round]; first | assumption | exact start_round _ _) | fail) only [goS, plainEv, resultsEv, resultListEv, reduceIte, Nat.reduceEqDiff, Option.map_some, Option.map_none, Option.bind_some, List.map_cons, List.map_nil, List.getD_cons_zero, List.getD_cons_succ, List.getElem?_toArray, List.getElem?_cons_zero, List.getElem?_cons_succ, eq_self, beq_self_eq_true, goH, List.append_nil, List.nil_append, rs20, fp52, vrs, load52, load52_3, store52, index_list, load_row, load_row_agg, put_push_eq, put_push_ne, push_len, *] | (refine guard_dec (fun _ => ?_) (fun _ => ?_) <;> try (exfalso; omega)) | (refine guard_ndec (fun _ => ?_) (fun _ => ?_) <;> try (exfalso; omega)) | (refine branch_dec (fun _ => ?_) (fun _ => ?_) <;> try (exfalso; omega)) | (refine branch_ndec (fun _ => ?_) (fun _ => ?_) <;> try (exfalso; omega)) | refine run_draw (by kernel_rfl) ?_ | refine guard_nbool (fun _ => ?_) (fun _ => ?_) | refine branch_nbool (fun _ => ?_) (fun _ => ?_) | refine guard_bool (fun _ => ?_) (fun _ => ?_) | refine branch_bool (fun _ => ?_) (fun _ => ?_))
                exact kfin.out _ kx3.out
              | true =>
                rw [e2] at w2
                cases e3 : timeB y.known with
                | false =>
                  have kfin := Keep.mk (fun hh hx => kbad.out hh hx (kvno.out (by rw [a1, a2, a0, e2, e3]; simp)))
                  rw [e3] at w3
                  repeat' (first | simp (config := { maxSteps := 4000000 }) (disch := first | assumption | (exact Nat.le_refl _) | omega | (simp only [List.length_cons, List.length_nil, List.length_append, push_len, put_len, len_app] <;> omega) | (simp (disch := (first | assumption | omega | (exact (push_len _ _).symm) | (simp only [push_len, put_len, len_app]; omega) | (refine Nat.le_antisymm ?_ ?_ <;> simp only [push_len, put_len, len_app] <;> omega) | fail)) only [get_push_last, get_push_eq, get_push_ne, get_put_eq, get_put_ne, get_app] <;> first | assumption | rfl) | (simp only [canApp_push, canApp_put]; assumption) | (exact start_round _ _) | (simp only [st_round, dfr_round, pn_round]; first | assumption | exact start_round _ _) | fail) only [goS, plainEv, resultsEv, resultListEv, reduceIte, Nat.reduceEqDiff, Option.map_some, Option.map_none, Option.bind_some, List.map_cons, List.map_nil, List.getD_cons_zero, List.getD_cons_succ, List.getElem?_toArray, List.getElem?_cons_zero, List.getElem?_cons_succ, eq_self, beq_self_eq_true, goH, List.append_nil, List.nil_append, rs20, fp52, vrs, load52, load52_3, store52, index_list, load_row, load_row_agg, put_push_eq, put_push_ne, push_len, *] | (refine guard_dec (fun _ => ?_) (fun _ => ?_) <;> try (exfalso; omega)) | (refine guard_ndec (fun _ => ?_) (fun _ => ?_) <;> try (exfalso; omega)) | (refine branch_dec (fun _ => ?_) (fun _ => ?_) <;> try (exfalso; omega)) | (refine branch_ndec (fun _ => ?_) (fun _ => ?_) <;> try (exfalso; omega)) | refine run_draw (by kernel_rfl) ?_ | refine guard_nbool (fun _ => ?_) (fun _ => ?_) | refine branch_nbool (fun _ => ?_) (fun _ => ?_) | refine guard_bool (fun _ => ?_) (fun _ => ?_) | refine branch_bool (fun _ => ?_) (fun _ => ?_))
                  exact kfin.out _ kx3.out
                | true =>
                  rw [e3] at w3
                  cases e4 : decide (checkP y.pol = 0) with
                  | false =>
                    have kfin := Keep.mk (fun hh hx => kbad.out hh hx (kvno.out (by rw [a1, a2, a0, e2, e3, e4]; simp)))
                    repeat' (first | simp (config := { maxSteps := 4000000 }) (disch := first | assumption | (exact Nat.le_refl _) | omega | (simp only [List.length_cons, List.length_nil, List.length_append, push_len, put_len, len_app] <;> omega) | (simp (disch := (first | assumption | omega | (exact (push_len _ _).symm) | (simp only [push_len, put_len, len_app]; omega) | (refine Nat.le_antisymm ?_ ?_ <;> simp only [push_len, put_len, len_app] <;> omega) | fail)) only [get_push_last, get_push_eq, get_push_ne, get_put_eq, get_put_ne, get_app] <;> first | assumption | rfl) | (simp only [canApp_push, canApp_put]; assumption) | (exact start_round _ _) | (simp only [st_round, dfr_round, pn_round]; first | assumption | exact start_round _ _) | fail) only [goS, plainEv, resultsEv, resultListEv, reduceIte, Nat.reduceEqDiff, Option.map_some, Option.map_none, Option.bind_some, List.map_cons, List.map_nil, List.getD_cons_zero, List.getD_cons_succ, List.getElem?_toArray, List.getElem?_cons_zero, List.getElem?_cons_succ, eq_self, beq_self_eq_true, goH, List.append_nil, List.nil_append, rs20, fp52, vrs, load52, load52_3, store52, index_list, load_row, load_row_agg, put_push_eq, put_push_ne, push_len, *] | (refine guard_dec (fun _ => ?_) (fun _ => ?_) <;> try (exfalso; omega)) | (refine guard_ndec (fun _ => ?_) (fun _ => ?_) <;> try (exfalso; omega)) | (refine branch_dec (fun _ => ?_) (fun _ => ?_) <;> try (exfalso; omega)) | (refine branch_ndec (fun _ => ?_) (fun _ => ?_) <;> try (exfalso; omega)) | refine run_draw (by kernel_rfl) ?_ | refine guard_nbool (fun _ => ?_) (fun _ => ?_) | refine branch_nbool (fun _ => ?_) (fun _ => ?_) | refine guard_bool (fun _ => ?_) (fun _ => ?_) | refine branch_bool (fun _ => ?_) (fun _ => ?_))
                    exact kfin.out _ kx4.out
                  | true =>
                    have hgo : verOk last y = true := by rw [kve.out, a1, a2, a0, e2, e3, e4]; simp
                    have kgo := Keep.mk hgo
                    have hyno : 0 ≤ y.no := by have := of_decide_eq_false a1; omega
                    have kyno := Keep.mk hyno
                    clear hgo hyno
                    repeat' (first | simp (config := { maxSteps := 4000000 }) (disch := first | assumption | (exact Nat.le_refl _) | omega | (simp only [List.length_cons, List.length_nil, List.length_append, push_len, put_len, len_app] <;> omega) | (simp (disch := (first | assumption | omega | (exact (push_len _ _).symm) | (simp only [push_len, put_len, len_app]; omega) | (refine Nat.le_antisymm ?_ ?_ <;> simp only [push_len, put_len, len_app] <;> omega) | fail)) only [get_push_last, get_push_eq, get_push_ne, get_put_eq, get_put_ne, get_app] <;> first | assumption | rfl) | (simp only [canApp_push, canApp_put]; assumption) | (exact start_round _ _) | (simp only [st_round, dfr_round, pn_round]; first | assumption | exact start_round _ _) | fail) only [goS, plainEv, resultsEv, resultListEv, reduceIte, Nat.reduceEqDiff, Option.map_some, Option.map_none, Option.bind_some, List.map_cons, List.map_nil, List.getD_cons_zero, List.getD_cons_succ, List.getElem?_toArray, List.getElem?_cons_zero, List.getElem?_cons_succ, eq_self, beq_self_eq_true, goH, List.append_nil, List.nil_append, rs20, fp52, vrs, load52, load52_3, store52, index_list, load_row, load_row_agg, put_push_eq, put_push_ne, push_len, *] | (refine guard_dec (fun _ => ?_) (fun _ => ?_) <;> try (exfalso; omega)) | (refine guard_ndec (fun _ => ?_) (fun _ => ?_) <;> try (exfalso; omega)) | (refine branch_dec (fun _ => ?_) (fun _ => ?_) <;> try (exfalso; omega)) | (refine branch_ndec (fun _ => ?_) (fun _ => ?_) <;> try (exfalso; omega)) | refine run_draw (by kernel_rfl) ?_ | refine guard_nbool (fun _ => ?_) (fun _ => ?_) | refine branch_nbool (fun _ => ?_) (fun _ => ?_) | refine guard_bool (fun _ => ?_) (fun _ => ?_) | refine branch_bool (fun _ => ?_) (fun _ => ?_))
                    refine ⟨l.length - (i + 1), by omega, i + 1, y.no, by omega, rfl, (by first | trivial | (simp; done) | (simp; omega)), (by first | trivial | (simp; done) | (simp; omega)), (by first | trivial | (simp; done) | (simp; omega)), kx4.out, kok4.out, (fun q => absurd q (Nat.succ_ne_zero i)), (fun _ => ⟨kyno.out, y, kyy.out, rfl⟩), ?_⟩
                    rw [kno.out, khv.out, kgo.out]; rfl
            | true =>
              obtain ⟨w, tw, hrw, rfl⟩ := kprev.out true a0 rfl
              have hp0 : (0 : Int) ≤ (i : Int) - 1 := by have := of_decide_eq_true a0; omega
              have hp1 : (i : Int) - 1 < (rows.length : Int) := by omega
              have hp2 : ((i : Int) - 1).toNat = i - 1 := by omega
              cases a3 : decide (y.no ≤ w.no) with
              | true =>
                have kfin := Keep.mk (fun hh hx => kbad.out hh hx (kvno.out (by rw [a1, a2, a0, a3]; rfl)))
                repeat' (first | simp (config := { maxSteps := 4000000 }) (disch := first | assumption | (exact Nat.le_refl _) | omega | (simp only [List.length_cons, List.length_nil, List.length_append, push_len, put_len, len_app] <;> omega) | (simp (disch := (first | assumption | omega | (exact (push_len _ _).symm) | (simp only [push_len, put_len, len_app]; omega) | (refine Nat.le_antisymm ?_ ?_ <;> simp only [push_len, put_len, len_app] <;> omega) | fail)) only [get_push_last, get_push_eq, get_push_ne, get_put_eq, get_put_ne, get_app] <;> first | assumption | rfl) | (simp only [canApp_push, canApp_put]; assumption) | (exact start_round _ _) | (simp only [st_round, dfr_round, pn_round]; first | assumption | exact start_round _ _) | fail) only [goS, plainEv, resultsEv, resultListEv, reduceIte, Nat.reduceEqDiff, Option.map_some, Option.map_none, Option.bind_some, List.map_cons, List.map_nil, List.getD_cons_zero, List.getD_cons_succ, List.getElem?_toArray, List.getElem?_cons_zero, List.getElem?_cons_succ, eq_self, beq_self_eq_true, goH, List.append_nil, List.nil_append, rs20, fp52, vrs, load52, load52_3, store52, index_list, load_row, load_row_agg, put_push_eq, put_push_ne, push_len, hp2, *] | (refine guard_dec (fun _ => ?_) (fun _ => ?_) <;> try (exfalso; omega)) | (refine guard_ndec (fun _ => ?_) (fun _ => ?_) <;> try (exfalso; omega)) | (refine branch_dec (fun _ => ?_) (fun _ => ?_) <;> try (exfalso; omega)) | (refine branch_ndec (fun _ => ?_) (fun _ => ?_) <;> try (exfalso; omega)) | refine run_draw (by kernel_rfl) ?_ | refine guard_nbool (fun _ => ?_) (fun _ => ?_) | refine branch_nbool (fun _ => ?_) (fun _ => ?_) | refine guard_bool (fun _ => ?_) (fun _ => ?_) | refine branch_bool (fun _ => ?_) (fun _ => ?_))
                exact kfin.out _ kx3.out
              | false =>
                cases e2 : timeB y.at_ with
                | false =>
                  have kfin := Keep.mk (fun hh hx => kbad.out hh hx (kvno.out (by rw [a1, a2, a0, a3, e2]; simp)))
                  rw [e2] at w2
                  repeat' (first | simp (config := { maxSteps := 4000000 }) (disch := first | assumption | (exact Nat.le_refl _) | omega | (simp only [List.length_cons, List.length_nil, List.length_append, push_len, put_len, len_app] <;> omega) | (simp (disch := (first | assumption | omega | (exact (push_len _ _).symm) | (simp only [push_len, put_len, len_app]; omega) | (refine Nat.le_antisymm ?_ ?_ <;> simp only [push_len, put_len, len_app] <;> omega) | fail)) only [get_push_last, get_push_eq, get_push_ne, get_put_eq, get_put_ne, get_app] <;> first | assumption | rfl) | (simp only [canApp_push, canApp_put]; assumption) | (exact start_round _ _) | (simp only [st_round, dfr_round, pn_round]; first | assumption | exact start_round _ _) | fail) only [goS, plainEv, resultsEv, resultListEv, reduceIte, Nat.reduceEqDiff, Option.map_some, Option.map_none, Option.bind_some, List.map_cons, List.map_nil, List.getD_cons_zero, List.getD_cons_succ, List.getElem?_toArray, List.getElem?_cons_zero, List.getElem?_cons_succ, eq_self, beq_self_eq_true, goH, List.append_nil, List.nil_append, rs20, fp52, vrs, load52, load52_3, store52, index_list, load_row, load_row_agg, put_push_eq, put_push_ne, push_len, hp2, *] | (refine guard_dec (fun _ => ?_) (fun _ => ?_) <;> try (exfalso; omega)) | (refine guard_ndec (fun _ => ?_) (fun _ => ?_) <;> try (exfalso; omega)) | (refine branch_dec (fun _ => ?_) (fun _ => ?_) <;> try (exfalso; omega)) | (refine branch_ndec (fun _ => ?_) (fun _ => ?_) <;> try (exfalso; omega)) | refine run_draw (by kernel_rfl) ?_ | refine guard_nbool (fun _ => ?_) (fun _ => ?_) | refine branch_nbool (fun _ => ?_) (fun _ => ?_) | refine guard_bool (fun _ => ?_) (fun _ => ?_) | refine branch_bool (fun _ => ?_) (fun _ => ?_))
                  exact kfin.out _ kx3.out
                | true =>
                  rw [e2] at w2
                  cases e3 : timeB y.known with
                  | false =>
                    have kfin := Keep.mk (fun hh hx => kbad.out hh hx (kvno.out (by rw [a1, a2, a0, a3, e2, e3]; simp)))
                    rw [e3] at w3
                    repeat' (first | simp (config := { maxSteps := 4000000 }) (disch := first | assumption | (exact Nat.le_refl _) | omega | (simp only [List.length_cons, List.length_nil, List.length_append, push_len, put_len, len_app] <;> omega) | (simp (disch := (first | assumption | omega | (exact (push_len _ _).symm) | (simp only [push_len, put_len, len_app]; omega) | (refine Nat.le_antisymm ?_ ?_ <;> simp only [push_len, put_len, len_app] <;> omega) | fail)) only [get_push_last, get_push_eq, get_push_ne, get_put_eq, get_put_ne, get_app] <;> first | assumption | rfl) | (simp only [canApp_push, canApp_put]; assumption) | (exact start_round _ _) | (simp only [st_round, dfr_round, pn_round]; first | assumption | exact start_round _ _) | fail) only [goS, plainEv, resultsEv, resultListEv, reduceIte, Nat.reduceEqDiff, Option.map_some, Option.map_none, Option.bind_some, List.map_cons, List.map_nil, List.getD_cons_zero, List.getD_cons_succ, List.getElem?_toArray, List.getElem?_cons_zero, List.getElem?_cons_succ, eq_self, beq_self_eq_true, goH, List.append_nil, List.nil_append, rs20, fp52, vrs, load52, load52_3, store52, index_list, load_row, load_row_agg, put_push_eq, put_push_ne, push_len, hp2, *] | (refine guard_dec (fun _ => ?_) (fun _ => ?_) <;> try (exfalso; omega)) | (refine guard_ndec (fun _ => ?_) (fun _ => ?_) <;> try (exfalso; omega)) | (refine branch_dec (fun _ => ?_) (fun _ => ?_) <;> try (exfalso; omega)) | (refine branch_ndec (fun _ => ?_) (fun _ => ?_) <;> try (exfalso; omega)) | refine run_draw (by kernel_rfl) ?_ | refine guard_nbool (fun _ => ?_) (fun _ => ?_) | refine branch_nbool (fun _ => ?_) (fun _ => ?_) | refine guard_bool (fun _ => ?_) (fun _ => ?_) | refine branch_bool (fun _ => ?_) (fun _ => ?_))
                    exact kfin.out _ kx3.out
                  | true =>
                    rw [e3] at w3
                    cases e4 : decide (checkP y.pol = 0) with
                    | false =>
                      have kfin := Keep.mk (fun hh hx => kbad.out hh hx (kvno.out (by rw [a1, a2, a0, a3, e2, e3, e4]; simp)))
                      repeat' (first | simp (config := { maxSteps := 4000000 }) (disch := first | assumption | (exact Nat.le_refl _) | omega | (simp only [List.length_cons, List.length_nil, List.length_append, push_len, put_len, len_app] <;> omega) | (simp (disch := (first | assumption | omega | (exact (push_len _ _).symm) | (simp only [push_len, put_len, len_app]; omega) | (refine Nat.le_antisymm ?_ ?_ <;> simp only [push_len, put_len, len_app] <;> omega) | fail)) only [get_push_last, get_push_eq, get_push_ne, get_put_eq, get_put_ne, get_app] <;> first | assumption | rfl) | (simp only [canApp_push, canApp_put]; assumption) | (exact start_round _ _) | (simp only [st_round, dfr_round, pn_round]; first | assumption | exact start_round _ _) | fail) only [goS, plainEv, resultsEv, resultListEv, reduceIte, Nat.reduceEqDiff, Option.map_some, Option.map_none, Option.bind_some, List.map_cons, List.map_nil, List.getD_cons_zero, List.getD_cons_succ, List.getElem?_toArray, List.getElem?_cons_zero, List.getElem?_cons_succ, eq_self, beq_self_eq_true, goH, List.append_nil, List.nil_append, rs20, fp52, vrs, load52, load52_3, store52, index_list, load_row, load_row_agg, put_push_eq, put_push_ne, push_len, hp2, *] | (refine guard_dec (fun _ => ?_) (fun _ => ?_) <;> try (exfalso; omega)) | (refine guard_ndec (fun _ => ?_) (fun _ => ?_) <;> try (exfalso; omega)) | (refine branch_dec (fun _ => ?_) (fun _ => ?_) <;> try (exfalso; omega)) | (refine branch_ndec (fun _ => ?_) (fun _ => ?_) <;> try (exfalso; omega)) | refine run_draw (by kernel_rfl) ?_ | refine guard_nbool (fun _ => ?_) (fun _ => ?_) | refine branch_nbool (fun _ => ?_) (fun _ => ?_) | refine guard_bool (fun _ => ?_) (fun _ => ?_) | refine branch_bool (fun _ => ?_) (fun _ => ?_))
                      exact kfin.out _ kx4.out
                    | true =>
                      have hgo : verOk w.no y = true := by rw [kve.out, a1, a2, a0, a3, e2, e3, e4]; simp
                      have kgo := Keep.mk hgo
                      have hyno : 0 ≤ y.no := by have := of_decide_eq_false a1; omega
                      have kyno := Keep.mk hyno
                      clear hgo hyno
                      repeat' (first | simp (config := { maxSteps := 4000000 }) (disch := first | assumption | (exact Nat.le_refl _) | omega | (simp only [List.length_cons, List.length_nil, List.length_append, push_len, put_len, len_app] <;> omega) | (simp (disch := (first | assumption | omega | (exact (push_len _ _).symm) | (simp only [push_len, put_len, len_app]; omega) | (refine Nat.le_antisymm ?_ ?_ <;> simp only [push_len, put_len, len_app] <;> omega) | fail)) only [get_push_last, get_push_eq, get_push_ne, get_put_eq, get_put_ne, get_app] <;> first | assumption | rfl) | (simp only [canApp_push, canApp_put]; assumption) | (exact start_round _ _) | (simp only [st_round, dfr_round, pn_round]; first | assumption | exact start_round _ _) | fail) only [goS, plainEv, resultsEv, resultListEv, reduceIte, Nat.reduceEqDiff, Option.map_some, Option.map_none, Option.bind_some, List.map_cons, List.map_nil, List.getD_cons_zero, List.getD_cons_succ, List.getElem?_toArray, List.getElem?_cons_zero, List.getElem?_cons_succ, eq_self, beq_self_eq_true, goH, List.append_nil, List.nil_append, rs20, fp52, vrs, load52, load52_3, store52, index_list, load_row, load_row_agg, put_push_eq, put_push_ne, push_len, hp2, *] | (refine guard_dec (fun _ => ?_) (fun _ => ?_) <;> try (exfalso; omega)) | (refine guard_ndec (fun _ => ?_) (fun _ => ?_) <;> try (exfalso; omega)) | (refine branch_dec (fun _ => ?_) (fun _ => ?_) <;> try (exfalso; omega)) | (refine branch_ndec (fun _ => ?_) (fun _ => ?_) <;> try (exfalso; omega)) | refine run_draw (by kernel_rfl) ?_ | refine guard_nbool (fun _ => ?_) (fun _ => ?_) | refine branch_nbool (fun _ => ?_) (fun _ => ?_) | refine guard_bool (fun _ => ?_) (fun _ => ?_) | refine branch_bool (fun _ => ?_) (fun _ => ?_))
                      refine ⟨l.length - (i + 1), by omega, i + 1, y.no, by omega, rfl, (by first | trivial | (simp; done) | (simp; omega)), (by first | trivial | (simp; done) | (simp; omega)), (by first | trivial | (simp; done) | (simp; omega)), kx4.out, kok4.out, (fun q => absurd q (Nat.succ_ne_zero i)), (fun _ => ⟨kyno.out, y, kyy.out, rfl⟩), ?_⟩
                      rw [kno.out, khv.out, kgo.out]; rfl
      · have hie : i = l.length := by omega
        subst hie
        have hlt5 : ¬ ((l.length : Int) < (l.length : Int)) := by omega
        have hv : versOk (-1) l = true := by rw [kno.out, List.drop_length, versOk]
        rw [hv]
        repeat' (first | simp (config := { maxSteps := 4000000 }) (disch := first | assumption | (exact Nat.le_refl _) | omega | (simp only [List.length_cons, List.length_nil, List.length_append, push_len, put_len, len_app] <;> omega) | (simp (disch := (first | assumption | omega | (exact (push_len _ _).symm) | (simp only [push_len, put_len, len_app]; omega) | (refine Nat.le_antisymm ?_ ?_ <;> simp only [push_len, put_len, len_app] <;> omega) | fail)) only [get_push_last, get_push_eq, get_push_ne, get_put_eq, get_put_ne, get_app] <;> first | assumption | rfl) | (simp only [canApp_push, canApp_put]; assumption) | (exact start_round _ _) | (simp only [st_round, dfr_round, pn_round]; first | assumption | exact start_round _ _) | fail) only [goS, plainEv, resultsEv, resultListEv, reduceIte, Nat.reduceEqDiff, Option.map_some, Option.map_none, Option.bind_some, List.map_cons, List.map_nil, List.getD_cons_zero, List.getD_cons_succ, List.getElem?_toArray, List.getElem?_cons_zero, List.getElem?_cons_succ, eq_self, beq_self_eq_true, goH, List.append_nil, List.nil_append, rs20, *] | (refine guard_dec (fun _ => ?_) (fun _ => ?_) <;> try (exfalso; omega)) | (refine guard_ndec (fun _ => ?_) (fun _ => ?_) <;> try (exfalso; omega)) | (refine branch_dec (fun _ => ?_) (fun _ => ?_) <;> try (exfalso; omega)) | (refine branch_ndec (fun _ => ?_) (fun _ => ?_) <;> try (exfalso; omega)) | refine guard_nbool (fun _ => ?_) (fun _ => ?_) | refine branch_nbool (fun _ => ?_) (fun _ => ?_) | refine guard_bool (fun _ => ?_) (fun _ => ?_) | refine branch_bool (fun _ => ?_) (fun _ => ?_))
        exact ⟨_, rfl, kx.out⟩
    · refine ⟨0, -1, Nat.zero_le _, rfl, ?_, ?_, ?_, kx0.out, kokh.out, fun _ => rfl, fun q => absurd q (Nat.not_lt_zero 0), by rw [List.drop_zero]⟩ <;> simp only [goS, plainEv, resultsEv, resultListEv, reduceIte, Nat.reduceEqDiff, Option.map_some, Option.map_none, Option.bind_some, List.map_cons, List.map_nil, List.getD_cons_zero, List.getD_cons_succ, List.getElem?_toArray, List.getElem?_cons_zero, List.getElem?_cons_succ, eq_self, beq_self_eq_true, goH] <;> rfl
end Go.Proofs.YtilmhlbjjfgeoaaDoor
end

section
namespace Go.Proofs.YtilmhlbjjfgeoaaDoor
open Go.AE Go.Lex Go.Pol
/-! ### Plain: which version is in force -/
def countB (at_ known : Int) (x : Vs) : Bool := decide (x.at_ ≤ at_) && decide (x.known ≤ known)
def countL (at_ known : Int) (l : List Vs) : List Vs := l.filter (countB at_ known)
theorem versOk_mono : ∀ {l : List Vs} {a b : Int}, a ≤ b → versOk b l = true → versOk a l = true := by
  intro l a b h hv
  cases l with
  | nil => rw [versOk]
  | cons x r =>
    rw [versOk, Bool.and_eq_true] at hv ⊢
    refine ⟨?_, hv.2⟩
    have := hv.1
    unfold verOk at this ⊢
    simp only [Bool.and_eq_true, decide_eq_true_eq] at this ⊢
    exact ⟨⟨by omega, this.1.2⟩, this.2⟩
theorem verOk_lt {a : Int} {x : Vs} (h : verOk a x = true) : a < x.no := by
  unfold verOk at h
  simp only [Bool.and_eq_true, decide_eq_true_eq] at h
  omega
theorem versOk_filter (q : Vs → Bool) : ∀ {l : List Vs} {a : Int}, versOk a l = true → versOk a (l.filter q) = true := by
  intro l
  induction l with
  | nil => intro a h; exact h
  | cons x r ih =>
    intro a h
    rw [versOk, Bool.and_eq_true] at h
    rw [List.filter_cons]
    split
    · rw [versOk, Bool.and_eq_true]; exact ⟨h.1, ih h.2⟩
    · exact versOk_mono (Int.le_of_lt (verOk_lt h.1)) (ih h.2)
theorem versOk_inc : ∀ {l : List Vs} {a : Int}, versOk a l = true → (∀ x ∈ l, a < x.no) ∧ l.Pairwise fun x y => x.no < y.no := by
  intro l
  induction l with
  | nil => intro a _; exact ⟨fun x hx => (nomatch hx), .nil⟩
  | cons x r ih =>
    intro a h
    rw [versOk, Bool.and_eq_true] at h
    obtain ⟨h1, h2⟩ := ih h.2
    have := verOk_lt h.1
    refine ⟨fun y hy => ?_, List.pairwise_cons.2 ⟨h1, h2⟩⟩
    rcases List.mem_cons.1 hy with e | e
    · rw [e]; exact this
    · have := h1 y e; omega
theorem versOk_zero {l : List Vs} (h : checkAllF l = 0) : l.length ≤ 256 ∧ versOk (-1) l = true := by
  unfold checkAllF at h
  by_cases q : 256 < l.length
  · rw [if_pos q] at h; exact absurd h (by decide)
  · rw [if_neg q] at h
    by_cases w : versOk (-1) l = true
    · exact ⟨by omega, w⟩
    · rw [if_neg w] at h; exact absurd h (by decide)
theorem check_filter {l : List Vs} (q : Vs → Bool) (h : checkAllF l = 0) : checkAllF (l.filter q) = 0 := by
  obtain ⟨h1, h2⟩ := versOk_zero h
  unfold checkAllF
  rw [if_neg (by have := List.length_filter_le q l; omega), versOk_filter q h2]
  rfl
theorem stand_filter (at_ known : Int) : ∀ (l : List Vs) (s : Int × Int × Bool), (countL at_ known l).foldl (better at_ known) s = l.foldl (better at_ known) s := by
  intro l
  induction l with
  | nil => intro s; rfl
  | cons x r ih =>
    intro s
    unfold countL at ih ⊢
    rw [List.filter_cons, List.foldl_cons]
    split
    · rw [List.foldl_cons]; exact ih _
    · rename_i q
      rw [ih]
      congr 1
      unfold better betterB
      unfold countB at q
      simp only [Bool.not_eq_true] at q
      rw [q]
      rfl
structure StandsOn (l : List Vs) (s : Int × Int × Bool) : Prop where
  none : s.2.2 = false → s = (0, 0, false) ∧ l = []
  some : s.2.2 = true → ∃ z ∈ l, z.no = s.1 ∧ z.at_ = s.2.1 ∧ ∀ y ∈ l, y.at_ ≤ z.at_ ∧ (y.at_ = z.at_ → y.no ≤ z.no)
theorem stands_step {at_ known : Int} : ∀ (r p : List Vs) (s : Int × Int × Bool), StandsOn p s → (∀ x ∈ r, countB at_ known x = true) → (p ++ r).Pairwise (fun x y => x.no < y.no) → StandsOn (p ++ r) (r.foldl (better at_ known) s) := by
  intro r
  induction r with
  | nil => intro p s h _ _; rw [List.append_nil]; exact h
  | cons x r ih =>
    intro p s h hc hp
    rw [List.foldl_cons]
    have e : p ++ x :: r = (p ++ [x]) ++ r := by simp
    rw [e] at hp ⊢
    refine ih _ _ ?_ (fun y hy => hc y (List.mem_cons_of_mem _ hy)) hp
    have hpx : ∀ y ∈ p, y.no < x.no := by
      have := (List.pairwise_append.1 ((List.pairwise_append.1 hp).1)).2.2
      exact fun y hy => this y hy x (List.mem_singleton.2 rfl)
    have hcx := hc x List.mem_cons_self
    have hb : betterB at_ known s.2.1 s.2.2 x = (!s.2.2 || decide (s.2.1 ≤ x.at_)) := by
      unfold betterB
      unfold countB at hcx
      rw [hcx]; rfl
    unfold better
    rw [hb]
    cases hs : s.2.2 with
    | false =>
      obtain ⟨-, rfl⟩ := h.none hs
      refine ⟨fun q => (nomatch q), fun _ => ⟨x, by simp, rfl, rfl, fun y hy => ?_⟩⟩
      simp at hy
      subst hy
      exact ⟨Int.le_refl _, fun _ => Int.le_refl _⟩
    | true =>
      obtain ⟨z, hz, z1, z2, z3⟩ := h.some hs
      by_cases q : s.2.1 ≤ x.at_
      · simp only [q, decide_true, Bool.or_true, if_true]
        refine ⟨fun q => (nomatch q), fun _ => ⟨x, by simp, rfl, rfl, fun y hy => ?_⟩⟩
        rcases List.mem_append.1 hy with w | w
        · have a := (z3 y w).1
          exact ⟨by omega, fun _ => Int.le_of_lt (hpx y w)⟩
        · simp at w
          subst w
          exact ⟨Int.le_refl _, fun _ => Int.le_refl _⟩
      · simp only [q, decide_false, Bool.not_true, Bool.or_self, Bool.false_eq_true, if_false]
        refine ⟨fun w => absurd hs (by rw [w]; decide), fun _ => ⟨z, List.mem_append_left _ hz, z1, z2, fun y hy => ?_⟩⟩
        rcases List.mem_append.1 hy with w | w
        · exact z3 y w
        · simp at w
          subst w
          exact ⟨by omega, fun w => by omega⟩
/-- What stands in force among those that count. -/
theorem force_law {l : List Vs} (h : checkAllF l = 0) (at_ known : Int) : ∃ no ok, standL at_ known l = (no, (standL at_ known l).2.1, ok) ∧ standL at_ known (countL at_ known l) = (no, (standL at_ known l).2.1, ok) ∧ decide (0 < (countL at_ known l).length) = ok ∧ (ok = false → no = 0) ∧
    (∀ x ∈ countL at_ known l, x.no = no → ∀ y ∈ countL at_ known l, y.at_ ≤ x.at_ ∧ (y.at_ = x.at_ → y.no ≤ x.no)) ∧ (ok = true → ∃ x ∈ countL at_ known l, x.no = no) := by
  obtain ⟨-, hv⟩ := versOk_zero h
  have hp : (countL at_ known l).Pairwise fun x y => x.no < y.no := (versOk_inc (versOk_filter (countB at_ known) hv)).2
  have st := stands_step (at_ := at_) (known := known) (countL at_ known l) [] (0, 0, false) ⟨fun _ => ⟨rfl, rfl⟩, fun q => (nomatch q)⟩ (fun x hx => (List.mem_filter.1 hx).2) hp
  rw [List.nil_append, stand_filter] at st
  have st : StandsOn (countL at_ known l) (standL at_ known l) := st
  have sf : standL at_ known (countL at_ known l) = standL at_ known l := stand_filter at_ known l _
  generalize countL at_ known l = c at *
  generalize standL at_ known l = s at *
  obtain ⟨no, last, ok⟩ := s
  refine ⟨no, ok, rfl, sf, ?_, fun q => ?_, fun x hx hxn => ?_, fun q => ?_⟩
  · cases ok with
    | false => rw [(st.none rfl).2]; rfl
    | true =>
      obtain ⟨z, hz, -⟩ := st.some rfl
      exact decide_eq_true (List.length_pos_of_mem hz)
  · have := (st.none q).1
    exact congrArg Prod.fst this
  · cases ok with
    | false => rw [(st.none rfl).2] at hx; cases hx
    | true =>
      obtain ⟨z, hz, z1, z2, z3⟩ := st.some rfl
      have : x = z := by
        obtain ⟨i, hi, rfl⟩ := List.mem_iff_getElem.1 hx
        obtain ⟨j, hj, rfl⟩ := List.mem_iff_getElem.1 hz
        have z1 : c[j].no = no := z1
        have w := List.pairwise_iff_getElem.1 hp
        rcases Nat.lt_trichotomy i j with q | q | q
        · have := w i j hi hj q; omega
        · subst q; rfl
        · have := w j i hj hi q; omega
      rw [this]
      exact z3
  · obtain ⟨z, hz, z1, -⟩ := st.some q
    exact ⟨z, hz, z1⟩
end Go.Proofs.YtilmhlbjjfgeoaaDoor
end

section
namespace Go.Proofs.YtilmhlbjjfgeoaaDoor
open Go.AE Go.Lex Go.Pol
/-! ### PoliciesForce -/
theorem rs8 : Tryd.f8.results.toList = [.tmp 6] := by kernel_rfl
theorem zb4 : Tryd.prog.underlying 4 = some .bool := by kernel_rfl
theorem tri_eq (n : Int) (b : Bool) (e : Int) : triple n b e = .tuple [.v (.int .i64 n), .v (.bool b), .v (.int .i64 e)] := rfl
theorem build36 {x : Vs} {t : PT} : buildSliceEv Tryd.prog 36 1 [(0, .agg (vrow x t))] = some (.list .tight 13 [vrow x t]) := by kernel_rfl
theorem app_vers {h : Heap} {tok : Tok} {sz : Nat} {rows : List (List AV)} (hk : CanApp 0 h tok) (hs : sz = 13 ∨ (rows = [] ∧ tok = .nil)) (hl : rows.length ≤ 70000) {r : List AV} :
    appendEv Tryd.prog h #[36, 36] (.list tok sz rows) (.list .tight 13 [r]) = some (.list (.free h.tn) 13 (rows ++ [r]), h.app tok) := by
  have hi : (Tryd.prog.info? 52).map (fun i => (decide (i.bytes ≤ 1000), i.size, i.zero.map fun z => z.cells.size)) = some (true, 13, some 13) := by kernel_rfl
  cases hq : Tryd.prog.info? 52 with
  | none => rw [hq] at hi; cases hi
  | some i =>
    rw [hq] at hi
    simp only [Option.map_some, Option.some.injEq, Prod.mk.injEq, decide_eq_true_eq] at hi
    obtain ⟨i1, i2, i3⟩ := hi
    have hm : (rows.length + 1) * i.bytes ≤ 70001 * 1000 := Nat.mul_le_mul (by omega) i1
    have := append_rows (k' := .tight) (new := [r]) (es := rows) Tryd.underlying36 Tryd.underlying36 hq (by omega) (by rw [i3, i2]) (by simp) (by simp only [List.length_singleton]; omega) (by simp only [List.length_singleton]; omega)
      (by rw [i2]; exact hs) hk
    rw [i2] at this
    exact this
theorem VRows.nil : VRows [] [] := ⟨rfl, fun i x r h => by simp at h⟩
theorem VRows.snoc {l : List Vs} {rows : List (List AV)} (h : VRows l rows) {x : Vs} {t : PT} (hx : POk x.pol t) : VRows (l ++ [x]) (rows ++ [vrow x t]) := by
  refine ⟨by simp [h.1], fun i y s h1 h2 => ?_⟩
  rcases Nat.lt_or_ge i l.length with hi | hi
  · rw [List.getElem?_append_left hi] at h1
    rw [List.getElem?_append_left (by rw [h.1]; exact hi)] at h2
    exact h.2 i y s h1 h2
  · rw [List.getElem?_append_right hi] at h1
    rw [List.getElem?_append_right (by rw [h.1]; exact hi), h.1] at h2
    have hz : i - l.length = 0 := by
      have := (List.getElem?_eq_some_iff.1 h1).1
      simp at this
      omega
    rw [hz] at h1 h2
    simp at h1 h2
    subst h1; subst h2
    exact ⟨t, rfl, hx⟩
theorem count_snoc {at_ known : Int} {l : List Vs} {i : Nat} {y : Vs} (hy : l[i]? = some y) : countL at_ known (l.take (i + 1)) = countL at_ known (l.take i) ++ (if countB at_ known y = true then [y] else []) := by
  obtain ⟨hj, rfl⟩ := List.getElem?_eq_some_iff.1 hy
  rw [List.take_succ_eq_append_getElem hj]
  unfold countL
  rw [List.filter_append, List.filter_cons, List.filter_nil]
set_option maxHeartbeats 32000000 in
set_option maxRecDepth 100000 in
theorem policiesForce_law (k : Tok) (l : List Vs) (rows : List (List AV)) (hr : VRows l rows) (hb : l.length ≤ 9223372036854775807) (at_ known : Int) : ∃ h', W.call 8 [.list k 13 rows, .v (.int .i64 at_), .v (.int .i64 known)] Heap.init = some (.ret (.v (.bool true)), h') ∧ True := by
  have hz : ∀ i : Nat, i < l.length → (13 : Nat) = 13 := fun _ _ => rfl
  have z4 := zb4; have u36 := Tryd.underlying36
  have a3 := ag3; have a28 := ag28; have a52 := ag52; have s52 := sz52; have s28 := sz28; have z52 := zc52
  have hlen := hr.1
  obtain ⟨h1, c1, x1⟩ := sane_ev Heap.init rfl
  obtain ⟨h2, c2, x2⟩ := fewV_ev k 13 l rows hr hz hb h1
  refine call_ex rfl Tryd.func8 rfl ?_
  cases hf : fewV l with
  | false =>
    rw [hf] at c2
    clear x1 x2
    repeat' (first | simp (config := { maxSteps := 4000000 }) (disch := first | assumption | (exact Nat.le_refl _) | omega | (simp only [List.length_cons, List.length_nil, List.length_append, push_len, put_len, len_app] <;> omega) | (simp (disch := (first | assumption | omega | (exact (push_len _ _).symm) | (simp only [push_len, put_len, len_app]; omega) | (refine Nat.le_antisymm ?_ ?_ <;> simp only [push_len, put_len, len_app] <;> omega) | fail)) only [get_push_last, get_push_eq, get_push_ne, get_put_eq, get_put_ne, get_app] <;> first | assumption | rfl) | (simp only [canApp_push, canApp_put]; assumption) | (exact start_round _ _) | (simp only [st_round, dfr_round, pn_round]; first | assumption | exact start_round _ _) | fail) only [goS, plainEv, resultsEv, resultListEv, reduceIte, Nat.reduceEqDiff, Option.map_some, Option.map_none, Option.bind_some, List.map_cons, List.map_nil, List.getD_cons_zero, List.getD_cons_succ, List.getElem?_toArray, List.getElem?_cons_zero, List.getElem?_cons_succ, eq_self, beq_self_eq_true, goH, List.append_nil, List.nil_append, rs8, *] | (refine guard_dec (fun _ => ?_) (fun _ => ?_) <;> try (exfalso; omega)) | (refine guard_ndec (fun _ => ?_) (fun _ => ?_) <;> try (exfalso; omega)) | (refine branch_dec (fun _ => ?_) (fun _ => ?_) <;> try (exfalso; omega)) | (refine branch_ndec (fun _ => ?_) (fun _ => ?_) <;> try (exfalso; omega)) | refine guard_nbool (fun _ => ?_) (fun _ => ?_) | refine branch_nbool (fun _ => ?_) (fun _ => ?_) | refine guard_bool (fun _ => ?_) (fun _ => ?_) | refine branch_bool (fun _ => ?_) (fun _ => ?_))
    exact ⟨_, rfl, trivial⟩
  | true =>
    rw [hf] at c2
    have few := fewV_few hf
    have o2 : okHeap h2 = true := x2.ok (x1.ok rfl)
    by_cases h6 : 6 < l.length
    · have h6' : (6 : Int) < (rows.length : Int) := by rw [hlen]; omega
      clear x1 x2
      repeat' (first | simp (config := { maxSteps := 4000000 }) (disch := first | assumption | (exact Nat.le_refl _) | omega | (simp only [List.length_cons, List.length_nil, List.length_append, push_len, put_len, len_app] <;> omega) | (simp (disch := (first | assumption | omega | (exact (push_len _ _).symm) | (simp only [push_len, put_len, len_app]; omega) | (refine Nat.le_antisymm ?_ ?_ <;> simp only [push_len, put_len, len_app] <;> omega) | fail)) only [get_push_last, get_push_eq, get_push_ne, get_put_eq, get_put_ne, get_app] <;> first | assumption | rfl) | (simp only [canApp_push, canApp_put]; assumption) | (exact start_round _ _) | (simp only [st_round, dfr_round, pn_round]; first | assumption | exact start_round _ _) | fail) only [goS, plainEv, resultsEv, resultListEv, reduceIte, Nat.reduceEqDiff, Option.map_some, Option.map_none, Option.bind_some, List.map_cons, List.map_nil, List.getD_cons_zero, List.getD_cons_succ, List.getElem?_toArray, List.getElem?_cons_zero, List.getElem?_cons_succ, eq_self, beq_self_eq_true, goH, List.append_nil, List.nil_append, rs8, *] | (refine guard_dec (fun _ => ?_) (fun _ => ?_) <;> try (exfalso; omega)) | (refine guard_ndec (fun _ => ?_) (fun _ => ?_) <;> try (exfalso; omega)) | (refine branch_dec (fun _ => ?_) (fun _ => ?_) <;> try (exfalso; omega)) | (refine branch_ndec (fun _ => ?_) (fun _ => ?_) <;> try (exfalso; omega)) | refine guard_nbool (fun _ => ?_) (fun _ => ?_) | refine branch_nbool (fun _ => ?_) (fun _ => ?_) | refine guard_bool (fun _ => ?_) (fun _ => ?_) | refine branch_bool (fun _ => ?_) (fun _ => ?_))
      exact ⟨_, rfl, trivial⟩
    · have h6' : ¬ (6 : Int) < (rows.length : Int) := by rw [hlen]; omega
      obtain ⟨h3, c3, x3⟩ := refCheckAll_ev k 13 l rows hr hz few hb h2 o2
      cases hc : decide (checkAllF l = 0) with
      | false =>
        clear x1 x2 x3
        repeat' (first | simp (config := { maxSteps := 4000000 }) (disch := first | assumption | (exact Nat.le_refl _) | omega | (simp only [List.length_cons, List.length_nil, List.length_append, push_len, put_len, len_app] <;> omega) | (simp (disch := (first | assumption | omega | (exact (push_len _ _).symm) | (simp only [push_len, put_len, len_app]; omega) | (refine Nat.le_antisymm ?_ ?_ <;> simp only [push_len, put_len, len_app] <;> omega) | fail)) only [get_push_last, get_push_eq, get_push_ne, get_put_eq, get_put_ne, get_app] <;> first | assumption | rfl) | (simp only [canApp_push, canApp_put]; assumption) | (exact start_round _ _) | (simp only [st_round, dfr_round, pn_round]; first | assumption | exact start_round _ _) | fail) only [goS, plainEv, resultsEv, resultListEv, reduceIte, Nat.reduceEqDiff, Option.map_some, Option.map_none, Option.bind_some, List.map_cons, List.map_nil, List.getD_cons_zero, List.getD_cons_succ, List.getElem?_toArray, List.getElem?_cons_zero, List.getElem?_cons_succ, eq_self, beq_self_eq_true, goH, List.append_nil, List.nil_append, rs8, *] | (refine guard_dec (fun _ => ?_) (fun _ => ?_) <;> try (exfalso; omega)) | (refine guard_ndec (fun _ => ?_) (fun _ => ?_) <;> try (exfalso; omega)) | (refine branch_dec (fun _ => ?_) (fun _ => ?_) <;> try (exfalso; omega)) | (refine branch_ndec (fun _ => ?_) (fun _ => ?_) <;> try (exfalso; omega)) | refine guard_nbool (fun _ => ?_) (fun _ => ?_) | refine branch_nbool (fun _ => ?_) (fun _ => ?_) | refine guard_bool (fun _ => ?_) (fun _ => ?_) | refine branch_bool (fun _ => ?_) (fun _ => ?_))
        exact ⟨_, rfl, trivial⟩
      | true =>
        have hc' := of_decide_eq_true hc
        rw [hc'] at c3
        clear hc
        have w1 := time_ev at_
        have w2 := time_ev known
        cases e1 : timeB at_ with
        | false =>
          rw [e1] at w1
          clear x1 x2 x3
          repeat' (first | simp (config := { maxSteps := 4000000 }) (disch := first | assumption | (exact Nat.le_refl _) | omega | (simp only [List.length_cons, List.length_nil, List.length_append, push_len, put_len, len_app] <;> omega) | (simp (disch := (first | assumption | omega | (exact (push_len _ _).symm) | (simp only [push_len, put_len, len_app]; omega) | (refine Nat.le_antisymm ?_ ?_ <;> simp only [push_len, put_len, len_app] <;> omega) | fail)) only [get_push_last, get_push_eq, get_push_ne, get_put_eq, get_put_ne, get_app] <;> first | assumption | rfl) | (simp only [canApp_push, canApp_put]; assumption) | (exact start_round _ _) | (simp only [st_round, dfr_round, pn_round]; first | assumption | exact start_round _ _) | fail) only [goS, plainEv, resultsEv, resultListEv, reduceIte, Nat.reduceEqDiff, Option.map_some, Option.map_none, Option.bind_some, List.map_cons, List.map_nil, List.getD_cons_zero, List.getD_cons_succ, List.getElem?_toArray, List.getElem?_cons_zero, List.getElem?_cons_succ, eq_self, beq_self_eq_true, goH, List.append_nil, List.nil_append, rs8, *] | (refine guard_dec (fun _ => ?_) (fun _ => ?_) <;> try (exfalso; omega)) | (refine guard_ndec (fun _ => ?_) (fun _ => ?_) <;> try (exfalso; omega)) | (refine branch_dec (fun _ => ?_) (fun _ => ?_) <;> try (exfalso; omega)) | (refine branch_ndec (fun _ => ?_) (fun _ => ?_) <;> try (exfalso; omega)) | refine guard_nbool (fun _ => ?_) (fun _ => ?_) | refine branch_nbool (fun _ => ?_) (fun _ => ?_) | refine guard_bool (fun _ => ?_) (fun _ => ?_) | refine branch_bool (fun _ => ?_) (fun _ => ?_))
          exact ⟨_, rfl, trivial⟩
        | true =>
          rw [e1] at w1
          cases e2 : timeB known with
          | false =>
            rw [e2] at w2
            clear x1 x2 x3
            repeat' (first | simp (config := { maxSteps := 4000000 }) (disch := first | assumption | (exact Nat.le_refl _) | omega | (simp only [List.length_cons, List.length_nil, List.length_append, push_len, put_len, len_app] <;> omega) | (simp (disch := (first | assumption | omega | (exact (push_len _ _).symm) | (simp only [push_len, put_len, len_app]; omega) | (refine Nat.le_antisymm ?_ ?_ <;> simp only [push_len, put_len, len_app] <;> omega) | fail)) only [get_push_last, get_push_eq, get_push_ne, get_put_eq, get_put_ne, get_app] <;> first | assumption | rfl) | (simp only [canApp_push, canApp_put]; assumption) | (exact start_round _ _) | (simp only [st_round, dfr_round, pn_round]; first | assumption | exact start_round _ _) | fail) only [goS, plainEv, resultsEv, resultListEv, reduceIte, Nat.reduceEqDiff, Option.map_some, Option.map_none, Option.bind_some, List.map_cons, List.map_nil, List.getD_cons_zero, List.getD_cons_succ, List.getElem?_toArray, List.getElem?_cons_zero, List.getElem?_cons_succ, eq_self, beq_self_eq_true, goH, List.append_nil, List.nil_append, rs8, *] | (refine guard_dec (fun _ => ?_) (fun _ => ?_) <;> try (exfalso; omega)) | (refine guard_ndec (fun _ => ?_) (fun _ => ?_) <;> try (exfalso; omega)) | (refine branch_dec (fun _ => ?_) (fun _ => ?_) <;> try (exfalso; omega)) | (refine branch_ndec (fun _ => ?_) (fun _ => ?_) <;> try (exfalso; omega)) | refine guard_nbool (fun _ => ?_) (fun _ => ?_) | refine branch_nbool (fun _ => ?_) (fun _ => ?_) | refine guard_bool (fun _ => ?_) (fun _ => ?_) | refine branch_bool (fun _ => ?_) (fun _ => ?_))
            exact ⟨_, rfl, trivial⟩
          | true =>
            rw [e2] at w2
            have o3 := x3.ok o2
            obtain ⟨no, ok, f1, f2, f3, f4, f5, f6⟩ := force_law hc' at_ known
            have hsl : standF l at_ known = (no, ok, 0) := by
              unfold standF
              rw [if_pos hc', e1, e2, f1]
              rfl
            have hsc : standF (countL at_ known l) at_ known = (no, ok, 0) := by
              unfold standF
              rw [if_pos (show checkAllF (countL at_ known l) = 0 from check_filter _ hc'), e1, e2, f2]
              rfl
            have hcl : (countL at_ known l).length ≤ 6 := by
              have := List.length_filter_le (countB at_ known) l
              unfold countL
              omega
            have kr := Keep.mk hr
            have kfew := Keep.mk few
            have kb := Keep.mk hb
            have kf3 := Keep.mk f3
            have kf4 := Keep.mk f4
            have kf5 := Keep.mk f5
            have kf6 := Keep.mk f6
            have ksl := Keep.mk hsl
            have ksc := Keep.mk hsc
            have ko3 := Keep.mk o3
            clear x1 x2 x3 few hf hc' e1 e2 f1 f2 f3 f4 f5 f6 hsl hsc o2 o3 hr hz
            repeat' (first | simp (config := { maxSteps := 4000000 }) (disch := first | assumption | (exact Nat.le_refl _) | omega | (simp only [List.length_cons, List.length_nil, List.length_append, push_len, put_len, len_app] <;> omega) | (simp (disch := (first | assumption | omega | (exact (push_len _ _).symm) | (simp only [push_len, put_len, len_app]; omega) | (refine Nat.le_antisymm ?_ ?_ <;> simp only [push_len, put_len, len_app] <;> omega) | fail)) only [get_push_last, get_push_eq, get_push_ne, get_put_eq, get_put_ne, get_app] <;> first | assumption | rfl) | (simp only [canApp_push, canApp_put]; assumption) | (exact start_round _ _) | (simp only [st_round, dfr_round, pn_round]; first | assumption | exact start_round _ _) | fail) only [goS, plainEv, resultsEv, resultListEv, reduceIte, Nat.reduceEqDiff, Option.map_some, Option.map_none, Option.bind_some, List.map_cons, List.map_nil, List.getD_cons_zero, List.getD_cons_succ, List.getElem?_toArray, List.getElem?_cons_zero, List.getElem?_cons_succ, eq_self, beq_self_eq_true, goH, List.append_nil, List.nil_append, rs8, *] | (refine guard_dec (fun _ => ?_) (fun _ => ?_) <;> try (exfalso; omega)) | (refine guard_ndec (fun _ => ?_) (fun _ => ?_) <;> try (exfalso; omega)) | (refine branch_dec (fun _ => ?_) (fun _ => ?_) <;> try (exfalso; omega)) | (refine branch_ndec (fun _ => ?_) (fun _ => ?_) <;> try (exfalso; omega)) | refine guard_nbool (fun _ => ?_) (fun _ => ?_) | refine branch_nbool (fun _ => ?_) (fun _ => ?_) | refine guard_bool (fun _ => ?_) (fun _ => ?_) | refine branch_bool (fun _ => ?_) (fun _ => ?_))
            refine run_loop (fun m e h' => ∃ (i : Nat) (tokC : Tok) (szC : Nat) (rowsC : List (List AV)), i ≤ l.length ∧ m = l.length - i ∧ e.get 0 = .list k 13 rows ∧ e.get 1 = .v (.int .i64 at_) ∧ e.get 2 = .v (.int .i64 known) ∧ e.get 7 = .list tokC szC rowsC ∧ e.get 45 = .list k 13 rows ∧ e.get 46 = .v (.int .i64 (l.length : Nat)) ∧ e.get 47 = .v (.int .i64 i) ∧ e.defers = [] ∧ VRows (countL at_ known (l.take i)) rowsC ∧ CanApp h3.tn h' tokC ∧ (szC = 13 ∨ (rowsC = [] ∧ tokC = .nil)) ∧ Ext h3 h' ∧ okHeap h' = true) ?_ l.length _ _ ?_
            · rintro m e h' ⟨i, tokC, szC, rowsC, hi, rfl, g0, g1, g2, g7, g45, g46, g47, hd, hrr, hca, hsr, hx, hok'⟩
              have hrl := hrr.1
              have khrr := Keep.mk hrr
              have kx := Keep.mk hx
              have kca := Keep.mk hca
              have ksr := Keep.mk hsr
              have kok' := Keep.mk hok'
              clear hrr hx hca hsr hok' c1 c2 c3 w1 w2
              by_cases hlt : i < l.length
              · obtain ⟨y, t, hy, hry, oky⟩ := kr.out.get hlt
                have hlt3 : (i : Int) < (rows.length : Int) := by rw [hlen]; omega
                have hlt5 : (i : Int) < (l.length : Int) := by omega
                have vf := @vrow_fit13 y t
                have kpush := Keep.mk (Ext.push h' (vrow y t))
                have hrl2 : rowsC.length ≤ 70000 := by
                  rw [hrl]
                  have := List.length_filter_le (countB at_ known) (l.take i)
                  have := List.length_take_le i l
                  unfold countL
                  omega
                have happ : ∀ (q : List AV), appendEv Tryd.prog (h'.push (vrow y t)) #[36, 36] (.list tokC szC rowsC) (.list .tight 13 [q]) = some (.list (.free h'.tn) 13 (rowsC ++ [q]), (h'.push (vrow y t)).app tokC) := fun q => app_vers (h := h'.push (vrow y t)) (kca.out.mono (Nat.zero_le _)) ksr.out hrl2
                have kst := Keep.mk (count_snoc (at_ := at_) (known := known) hy)
                have koky := Keep.mk oky
                clear oky hy
                cases d1 : decide (y.at_ ≤ at_) <;> cases d2 : decide (y.known ≤ known)
                iterate 3
                  · have hst := kst.out
                    unfold countB at hst
                    simp only [d1, d2, Bool.and_true, Bool.and_false, Bool.false_eq_true, if_false, List.append_nil] at hst
                    have khst := Keep.mk hst
                    clear hst
                    repeat' (first | simp (config := { maxSteps := 4000000 }) (disch := first | assumption | (exact Nat.le_refl _) | omega | (simp only [List.length_cons, List.length_nil, List.length_append, push_len, put_len, len_app] <;> omega) | (simp (disch := (first | assumption | omega | (exact (push_len _ _).symm) | (simp only [push_len, put_len, len_app]; omega) | (refine Nat.le_antisymm ?_ ?_ <;> simp only [push_len, put_len, len_app] <;> omega) | fail)) only [get_push_last, get_push_eq, get_push_ne, get_put_eq, get_put_ne, get_app] <;> first | assumption | rfl) | (simp only [canApp_push, canApp_put]; assumption) | (exact start_round _ _) | (simp only [st_round, dfr_round, pn_round]; first | assumption | exact start_round _ _) | fail) only [goS, plainEv, resultsEv, resultListEv, reduceIte, Nat.reduceEqDiff, Option.map_some, Option.map_none, Option.bind_some, List.map_cons, List.map_nil, List.getD_cons_zero, List.getD_cons_succ, List.getElem?_toArray, List.getElem?_cons_zero, List.getElem?_cons_succ, eq_self, beq_self_eq_true, goH, List.append_nil, List.nil_append, rs8, fp52, vrs, load52, store52, index_list, load_row_agg, put_push_eq, put_push_ne, push_len, build36, *] | (refine guard_dec (fun _ => ?_) (fun _ => ?_) <;> try (exfalso; omega)) | (refine guard_ndec (fun _ => ?_) (fun _ => ?_) <;> try (exfalso; omega)) | (refine branch_dec (fun _ => ?_) (fun _ => ?_) <;> try (exfalso; omega)) | (refine branch_ndec (fun _ => ?_) (fun _ => ?_) <;> try (exfalso; omega)) | refine run_draw (by kernel_rfl) ?_ | refine guard_nbool (fun _ => ?_) (fun _ => ?_) | refine branch_nbool (fun _ => ?_) (fun _ => ?_) | refine guard_bool (fun _ => ?_) (fun _ => ?_) | refine branch_bool (fun _ => ?_) (fun _ => ?_))
                    refine ⟨l.length - (i + 1), by omega, i + 1, tokC, szC, rowsC, by omega, rfl, (by first | trivial | (simp; done) | (simp; omega)), (by first | trivial | (simp; done) | (simp; omega)), (by first | trivial | (simp; done) | (simp; omega)), (by first | trivial | (simp; done) | (simp; omega)), (by first | trivial | (simp; done) | (simp; omega)), (by first | trivial | (simp; done) | (simp; omega)), (by first | trivial | (simp; done) | (simp; omega)), (by first | trivial | (simp; done) | (simp; omega)), ?_, kca.out, ksr.out, kx.out.trans kpush.out, kok'.out⟩
                    rw [khst.out]
                    exact khrr.out
                · have hst := kst.out
                  unfold countB at hst
                  simp only [d1, d2, Bool.and_true, if_true] at hst
                  have khst := Keep.mk hst
                  clear hst
                  repeat' (first | simp (config := { maxSteps := 4000000 }) (disch := first | assumption | (exact Nat.le_refl _) | omega | (simp only [List.length_cons, List.length_nil, List.length_append, push_len, put_len, len_app] <;> omega) | (simp (disch := (first | assumption | omega | (exact (push_len _ _).symm) | (simp only [push_len, put_len, len_app]; omega) | (refine Nat.le_antisymm ?_ ?_ <;> simp only [push_len, put_len, len_app] <;> omega) | fail)) only [get_push_last, get_push_eq, get_push_ne, get_put_eq, get_put_ne, get_app] <;> first | assumption | rfl) | (simp only [canApp_push, canApp_put]; assumption) | (exact start_round _ _) | (simp only [st_round, dfr_round, pn_round]; first | assumption | exact start_round _ _) | fail) only [goS, plainEv, resultsEv, resultListEv, reduceIte, Nat.reduceEqDiff, Option.map_some, Option.map_none, Option.bind_some, List.map_cons, List.map_nil, List.getD_cons_zero, List.getD_cons_succ, List.getElem?_toArray, List.getElem?_cons_zero, List.getElem?_cons_succ, eq_self, beq_self_eq_true, goH, List.append_nil, List.nil_append, rs8, fp52, vrs, load52, store52, index_list, load_row_agg, put_push_eq, put_push_ne, push_len, build36, *] | (refine guard_dec (fun _ => ?_) (fun _ => ?_) <;> try (exfalso; omega)) | (refine guard_ndec (fun _ => ?_) (fun _ => ?_) <;> try (exfalso; omega)) | (refine branch_dec (fun _ => ?_) (fun _ => ?_) <;> try (exfalso; omega)) | (refine branch_ndec (fun _ => ?_) (fun _ => ?_) <;> try (exfalso; omega)) | refine run_draw (by kernel_rfl) ?_ | refine guard_nbool (fun _ => ?_) (fun _ => ?_) | refine branch_nbool (fun _ => ?_) (fun _ => ?_) | refine guard_bool (fun _ => ?_) (fun _ => ?_) | refine branch_bool (fun _ => ?_) (fun _ => ?_))
                  refine ⟨l.length - (i + 1), by omega, i + 1, .free h'.tn, 13, rowsC ++ [vrow y t], by omega, rfl, (by first | trivial | (simp; done) | (simp; omega)), (by first | trivial | (simp; done) | (simp; omega)), (by first | trivial | (simp; done) | (simp; omega)), (by first | trivial | (simp; done) | (simp; omega)), (by first | trivial | (simp; done) | (simp; omega)), (by first | trivial | (simp; done) | (simp; omega)), (by first | trivial | (simp; done) | (simp; omega)), (by first | trivial | (simp; done) | (simp; omega)), ?_, ?_, .inl rfl, ?_, ?_⟩
                  · rw [khst.out]
                    exact khrr.out.snoc koky.out
                  · exact kca.out.next (h := h'.push (vrow y t)) kok'.out kx.out.tn
                  · exact (kx.out.trans kpush.out).app (h := h'.push (vrow y t)) kca.out
                  · exact (Mut.app (b := 0) (h := h'.push (vrow y t)) kca.out).ok kok'.out
              · have hie : i = l.length := by omega
                subst hie
                have hlt5 : ¬ ((l.length : Int) < (l.length : Int)) := by omega
                rw [List.take_length] at khrr hrl
                have hzc : ∀ i : Nat, i < (countL at_ known l).length → szC = 13 := fun i hi => by
                  rcases ksr.out with q | ⟨q, -⟩
                  · exact q
                  · exfalso
                    rw [q] at hrl
                    simp at hrl
                    omega
                have kzc := Keep.mk hzc
                have fewc : (countL at_ known l).length ≤ 256 → VFew (countL at_ known l) := fun _ x hx => kfew.out (by omega) x (List.mem_filter.1 hx).1
                obtain ⟨h4, c4, x4⟩ := standing_ev k 13 l rows kr.out (fun _ _ => rfl) kfew.out kb.out at_ known h' kok'.out
                obtain ⟨h5, c5, x5⟩ := standing_ev tokC szC (countL at_ known l) rowsC khrr.out hzc fewc (by omega) at_ known h4 (x4.ok kok'.out)
                rw [ksl.out, tri_eq] at c4
                rw [ksc.out, tri_eq] at c5
                have kok5 := Keep.mk (x5.ok (x4.ok kok'.out))
                have hcnt : decide ((0 : Int) < (rowsC.length : Int)) = ok := by
                  rw [← kf3.out, decide_eq_decide, hrl]
                  omega
                have hcnt2 : decide ((0 : Int) < ((countL at_ known l).length : Int)) = ok := by
                  rw [← kf3.out, decide_eq_decide]
                  omega
                clear x4 x5 fewc hzc
                generalize hcc : countL at_ known l = c at *
                have kcr := Keep.mk khrr.out
                have b0 : (ok == ok) = true := by cases ok <;> rfl
                repeat' (first | simp (config := { maxSteps := 4000000 }) (disch := first | assumption | (exact Nat.le_refl _) | omega | (simp only [List.length_cons, List.length_nil, List.length_append, push_len, put_len, len_app] <;> omega) | (simp (disch := (first | assumption | omega | (exact (push_len _ _).symm) | (simp only [push_len, put_len, len_app]; omega) | (refine Nat.le_antisymm ?_ ?_ <;> simp only [push_len, put_len, len_app] <;> omega) | fail)) only [get_push_last, get_push_eq, get_push_ne, get_put_eq, get_put_ne, get_app] <;> first | assumption | rfl) | (simp only [canApp_push, canApp_put]; assumption) | (exact start_round _ _) | (simp only [st_round, dfr_round, pn_round]; first | assumption | exact start_round _ _) | fail) only [goS, plainEv, resultsEv, resultListEv, reduceIte, Nat.reduceEqDiff, Option.map_some, Option.map_none, Option.bind_some, List.map_cons, List.map_nil, List.getD_cons_zero, List.getD_cons_succ, List.getElem?_toArray, List.getElem?_cons_zero, List.getElem?_cons_succ, eq_self, beq_self_eq_true, goH, List.append_nil, List.nil_append, rs8, bin_beql, bin_bneq, *] | (refine guard_dec (fun _ => ?_) (fun _ => ?_) <;> try (exfalso; omega)) | (refine guard_ndec (fun _ => ?_) (fun _ => ?_) <;> try (exfalso; omega)) | (refine branch_dec (fun _ => ?_) (fun _ => ?_) <;> try (exfalso; omega)) | (refine branch_ndec (fun _ => ?_) (fun _ => ?_) <;> try (exfalso; omega)) | refine guard_nbool (fun _ => ?_) (fun _ => ?_) | refine branch_nbool (fun _ => ?_) (fun _ => ?_) | refine guard_bool (fun _ => ?_) (fun _ => ?_) | refine branch_bool (fun _ => ?_) (fun _ => ?_))
                refine run_loop (fun m e h' => ∃ (i : Nat), i ≤ c.length ∧ m = c.length - i ∧ e.get 7 = .list tokC szC rowsC ∧ e.get 10 = .v (.int .i64 no) ∧ e.get 11 = .v (.bool ok) ∧ e.get 105 = .list tokC szC rowsC ∧ e.get 106 = .v (.int .i64 (c.length : Nat)) ∧ e.get 107 = .v (.int .i64 i) ∧ e.defers = [] ∧ ∀ (j : Nat) (x : Vs), j < i → c[j]? = some x → x.no ≠ no) ?_ c.length _ _ ?_
                · rintro m e h' ⟨i, hi, rfl, g7, g10, g11, g105, g106, g107, hd, hno⟩
                  have kno := Keep.mk hno
                  clear hno
                  by_cases hlt : i < c.length
                  · obtain ⟨x, t, hx, hrx, okx⟩ := kcr.out.get hlt
                    have h13 := kzc.out i hlt
                    have kx := Keep.mk hx
                    have hlt3 : (i : Int) < (rowsC.length : Int) := by rw [hrl]; omega
                    have hlt5 : (i : Int) < (c.length : Int) := by omega
                    have vf := @vrow_fit13 x t
                    clear okx hx
                    subst h13
                    cases d1 : decide (x.no = no) with
                    | false =>
                      have hne := of_decide_eq_false d1
                      have knx := Keep.mk (fun (j : Nat) (y : Vs) (hj : j < i + 1) (hy : c[j]? = some y) => (by
                        rcases Nat.lt_or_ge j i with q | q
                        · exact kno.out j y q hy
                        · have : j = i := by omega
                          subst this
                          have := kx.out
                          rw [hy] at this
                          injection this with this
                          rw [this]; exact hne : y.no ≠ no))
                      clear hne
                      repeat' (first | simp (config := { maxSteps := 4000000 }) (disch := first | assumption | (exact Nat.le_refl _) | omega | (simp only [List.length_cons, List.length_nil, List.length_append, push_len, put_len, len_app] <;> omega) | (simp (disch := (first | assumption | omega | (exact (push_len _ _).symm) | (simp only [push_len, put_len, len_app]; omega) | (refine Nat.le_antisymm ?_ ?_ <;> simp only [push_len, put_len, len_app] <;> omega) | fail)) only [get_push_last, get_push_eq, get_push_ne, get_put_eq, get_put_ne, get_app] <;> first | assumption | rfl) | (simp only [canApp_push, canApp_put]; assumption) | (exact start_round _ _) | (simp only [st_round, dfr_round, pn_round]; first | assumption | exact start_round _ _) | fail) only [goS, plainEv, resultsEv, resultListEv, reduceIte, Nat.reduceEqDiff, Option.map_some, Option.map_none, Option.bind_some, List.map_cons, List.map_nil, List.getD_cons_zero, List.getD_cons_succ, List.getElem?_toArray, List.getElem?_cons_zero, List.getElem?_cons_succ, eq_self, beq_self_eq_true, goH, List.append_nil, List.nil_append, rs8, fp52, vrs, load52, store52, index_list, load_row_agg, put_push_eq, put_push_ne, push_len, *] | (refine guard_dec (fun _ => ?_) (fun _ => ?_) <;> try (exfalso; omega)) | (refine guard_ndec (fun _ => ?_) (fun _ => ?_) <;> try (exfalso; omega)) | (refine branch_dec (fun _ => ?_) (fun _ => ?_) <;> try (exfalso; omega)) | (refine branch_ndec (fun _ => ?_) (fun _ => ?_) <;> try (exfalso; omega)) | refine run_draw (by kernel_rfl) ?_ | refine guard_nbool (fun _ => ?_) (fun _ => ?_) | refine branch_nbool (fun _ => ?_) (fun _ => ?_) | refine guard_bool (fun _ => ?_) (fun _ => ?_) | refine branch_bool (fun _ => ?_) (fun _ => ?_))
                      exact ⟨c.length - (i + 1), by omega, i + 1, by omega, rfl, (by first | trivial | (simp; done) | (simp; omega)), (by first | trivial | (simp; done) | (simp; omega)), (by first | trivial | (simp; done) | (simp; omega)), (by first | trivial | (simp; done) | (simp; omega)), (by first | trivial | (simp; done) | (simp; omega)), (by first | trivial | (simp; done) | (simp; omega)), (by first | trivial | (simp; done) | (simp; omega)), knx.out⟩
                    | true =>
                      have heq := of_decide_eq_true d1
                      have kall := Keep.mk (kf5.out x (List.mem_of_getElem? kx.out) heq)
                      clear heq
                      repeat' (first | simp (config := { maxSteps := 4000000 }) (disch := first | assumption | (exact Nat.le_refl _) | omega | (simp only [List.length_cons, List.length_nil, List.length_append, push_len, put_len, len_app] <;> omega) | (simp (disch := (first | assumption | omega | (exact (push_len _ _).symm) | (simp only [push_len, put_len, len_app]; omega) | (refine Nat.le_antisymm ?_ ?_ <;> simp only [push_len, put_len, len_app] <;> omega) | fail)) only [get_push_last, get_push_eq, get_push_ne, get_put_eq, get_put_ne, get_app] <;> first | assumption | rfl) | (simp only [canApp_push, canApp_put]; assumption) | (exact start_round _ _) | (simp only [st_round, dfr_round, pn_round]; first | assumption | exact start_round _ _) | fail) only [goS, plainEv, resultsEv, resultListEv, reduceIte, Nat.reduceEqDiff, Option.map_some, Option.map_none, Option.bind_some, List.map_cons, List.map_nil, List.getD_cons_zero, List.getD_cons_succ, List.getElem?_toArray, List.getElem?_cons_zero, List.getElem?_cons_succ, eq_self, beq_self_eq_true, goH, List.append_nil, List.nil_append, rs8, fp52, vrs, load52, store52, index_list, load_row_agg, put_push_eq, put_push_ne, push_len, *] | (refine guard_dec (fun _ => ?_) (fun _ => ?_) <;> try (exfalso; omega)) | (refine guard_ndec (fun _ => ?_) (fun _ => ?_) <;> try (exfalso; omega)) | (refine branch_dec (fun _ => ?_) (fun _ => ?_) <;> try (exfalso; omega)) | (refine branch_ndec (fun _ => ?_) (fun _ => ?_) <;> try (exfalso; omega)) | refine run_draw (by kernel_rfl) ?_ | refine guard_nbool (fun _ => ?_) (fun _ => ?_) | refine branch_nbool (fun _ => ?_) (fun _ => ?_) | refine guard_bool (fun _ => ?_) (fun _ => ?_) | refine branch_bool (fun _ => ?_) (fun _ => ?_))
                      refine run_loop (fun m e h'' => ∃ (j : Nat), j ≤ c.length ∧ m = c.length - j ∧ e.get 17 = .ptr (.box h'.boxes.length) 0 ∧ e.get 115 = .list tokC 13 rowsC ∧ e.get 116 = .v (.int .i64 (c.length : Nat)) ∧ e.get 117 = .v (.int .i64 j) ∧ e.defers = [] ∧ h''.boxes[h'.boxes.length]? = some (vrow x t)) ?_ c.length _ _ ?_
                      · rintro m e h'' ⟨j, hj, rfl, g17, g115, g116, g117, hd, hbx⟩
                        have nbx := (List.getElem?_eq_some_iff.1 hbx).1
                        by_cases hltj : j < c.length
                        · obtain ⟨y, ty, hy, hry, oky⟩ := kcr.out.get hltj
                          have hlt4 : (j : Int) < (rowsC.length : Int) := by rw [hrl]; omega
                          have hlt6 : (j : Int) < (c.length : Int) := by omega
                          have vfy := @vrow_fit13 y ty
                          obtain ⟨l1, l2⟩ := kall.out y (List.mem_of_getElem? hy)
                          have i1 : decide (x.at_ < y.at_) = false := decide_eq_false (by omega)
                          clear l1 oky hy
                          cases i2 : decide (y.at_ = x.at_) with
                          | false =>
                            clear l2
                            repeat' (first | simp (config := { maxSteps := 4000000 }) (disch := first | assumption | (exact Nat.le_refl _) | omega | (simp only [List.length_cons, List.length_nil, List.length_append, push_len, put_len, len_app] <;> omega) | (simp (disch := (first | assumption | omega | (exact (push_len _ _).symm) | (simp only [push_len, put_len, len_app]; omega) | (refine Nat.le_antisymm ?_ ?_ <;> simp only [push_len, put_len, len_app] <;> omega) | fail)) only [get_push_last, get_push_eq, get_push_ne, get_put_eq, get_put_ne, get_app] <;> first | assumption | rfl) | (simp only [canApp_push, canApp_put]; assumption) | (exact start_round _ _) | (simp only [st_round, dfr_round, pn_round]; first | assumption | exact start_round _ _) | fail) only [goS, plainEv, resultsEv, resultListEv, reduceIte, Nat.reduceEqDiff, Option.map_some, Option.map_none, Option.bind_some, List.map_cons, List.map_nil, List.getD_cons_zero, List.getD_cons_succ, List.getElem?_toArray, List.getElem?_cons_zero, List.getElem?_cons_succ, eq_self, beq_self_eq_true, goH, List.append_nil, List.nil_append, rs8, fp52, vrs, load52, store52, index_list, load_row_agg, put_push_eq, put_push_ne, push_len, *] | (refine guard_dec (fun _ => ?_) (fun _ => ?_) <;> try (exfalso; omega)) | (refine guard_ndec (fun _ => ?_) (fun _ => ?_) <;> try (exfalso; omega)) | (refine branch_dec (fun _ => ?_) (fun _ => ?_) <;> try (exfalso; omega)) | (refine branch_ndec (fun _ => ?_) (fun _ => ?_) <;> try (exfalso; omega)) | refine run_draw (by kernel_rfl) ?_ | refine guard_nbool (fun _ => ?_) (fun _ => ?_) | refine branch_nbool (fun _ => ?_) (fun _ => ?_) | refine guard_bool (fun _ => ?_) (fun _ => ?_) | refine branch_bool (fun _ => ?_) (fun _ => ?_))
                            exact ⟨c.length - (j + 1), by omega, j + 1, by omega, rfl, (by first | trivial | (simp; done) | (simp; omega)), (by first | trivial | (simp; done) | (simp; omega)), (by first | trivial | (simp; done) | (simp; omega)), (by first | trivial | (simp; done) | (simp; omega)), (by first | trivial | (simp; done) | (simp; omega)), push_old hbx⟩
                          | true =>
                            have i3 : decide (x.no < y.no) = false := decide_eq_false (by have := l2 (of_decide_eq_true i2); omega)
                            clear l2
                            repeat' (first | simp (config := { maxSteps := 4000000 }) (disch := first | assumption | (exact Nat.le_refl _) | omega | (simp only [List.length_cons, List.length_nil, List.length_append, push_len, put_len, len_app] <;> omega) | (simp (disch := (first | assumption | omega | (exact (push_len _ _).symm) | (simp only [push_len, put_len, len_app]; omega) | (refine Nat.le_antisymm ?_ ?_ <;> simp only [push_len, put_len, len_app] <;> omega) | fail)) only [get_push_last, get_push_eq, get_push_ne, get_put_eq, get_put_ne, get_app] <;> first | assumption | rfl) | (simp only [canApp_push, canApp_put]; assumption) | (exact start_round _ _) | (simp only [st_round, dfr_round, pn_round]; first | assumption | exact start_round _ _) | fail) only [goS, plainEv, resultsEv, resultListEv, reduceIte, Nat.reduceEqDiff, Option.map_some, Option.map_none, Option.bind_some, List.map_cons, List.map_nil, List.getD_cons_zero, List.getD_cons_succ, List.getElem?_toArray, List.getElem?_cons_zero, List.getElem?_cons_succ, eq_self, beq_self_eq_true, goH, List.append_nil, List.nil_append, rs8, fp52, vrs, load52, store52, index_list, load_row_agg, put_push_eq, put_push_ne, push_len, *] | (refine guard_dec (fun _ => ?_) (fun _ => ?_) <;> try (exfalso; omega)) | (refine guard_ndec (fun _ => ?_) (fun _ => ?_) <;> try (exfalso; omega)) | (refine branch_dec (fun _ => ?_) (fun _ => ?_) <;> try (exfalso; omega)) | (refine branch_ndec (fun _ => ?_) (fun _ => ?_) <;> try (exfalso; omega)) | refine run_draw (by kernel_rfl) ?_ | refine guard_nbool (fun _ => ?_) (fun _ => ?_) | refine branch_nbool (fun _ => ?_) (fun _ => ?_) | refine guard_bool (fun _ => ?_) (fun _ => ?_) | refine branch_bool (fun _ => ?_) (fun _ => ?_))
                            exact ⟨c.length - (j + 1), by omega, j + 1, by omega, rfl, (by first | trivial | (simp; done) | (simp; omega)), (by first | trivial | (simp; done) | (simp; omega)), (by first | trivial | (simp; done) | (simp; omega)), (by first | trivial | (simp; done) | (simp; omega)), (by first | trivial | (simp; done) | (simp; omega)), push_old hbx⟩
                        · have hje : j = c.length := by omega
                          subst hje
                          have hlt6 : ¬ ((c.length : Int) < (c.length : Int)) := by omega
                          repeat' (first | simp (config := { maxSteps := 4000000 }) (disch := first | assumption | (exact Nat.le_refl _) | omega | (simp only [List.length_cons, List.length_nil, List.length_append, push_len, put_len, len_app] <;> omega) | (simp (disch := (first | assumption | omega | (exact (push_len _ _).symm) | (simp only [push_len, put_len, len_app]; omega) | (refine Nat.le_antisymm ?_ ?_ <;> simp only [push_len, put_len, len_app] <;> omega) | fail)) only [get_push_last, get_push_eq, get_push_ne, get_put_eq, get_put_ne, get_app] <;> first | assumption | rfl) | (simp only [canApp_push, canApp_put]; assumption) | (exact start_round _ _) | (simp only [st_round, dfr_round, pn_round]; first | assumption | exact start_round _ _) | fail) only [goS, plainEv, resultsEv, resultListEv, reduceIte, Nat.reduceEqDiff, Option.map_some, Option.map_none, Option.bind_some, List.map_cons, List.map_nil, List.getD_cons_zero, List.getD_cons_succ, List.getElem?_toArray, List.getElem?_cons_zero, List.getElem?_cons_succ, eq_self, beq_self_eq_true, goH, List.append_nil, List.nil_append, rs8, *] | (refine guard_dec (fun _ => ?_) (fun _ => ?_) <;> try (exfalso; omega)) | (refine guard_ndec (fun _ => ?_) (fun _ => ?_) <;> try (exfalso; omega)) | (refine branch_dec (fun _ => ?_) (fun _ => ?_) <;> try (exfalso; omega)) | (refine branch_ndec (fun _ => ?_) (fun _ => ?_) <;> try (exfalso; omega)) | refine guard_nbool (fun _ => ?_) (fun _ => ?_) | refine branch_nbool (fun _ => ?_) (fun _ => ?_) | refine guard_bool (fun _ => ?_) (fun _ => ?_) | refine branch_bool (fun _ => ?_) (fun _ => ?_))
                          exact ⟨_, rfl, trivial⟩
                      · refine ⟨0, Nat.zero_le _, rfl, ?_, ?_, ?_, ?_, ?_, ?_⟩
                        iterate 5
                          · first | assumption | (simp only [goS, plainEv, resultsEv, resultListEv, reduceIte, Nat.reduceEqDiff, Option.map_some, Option.map_none, Option.bind_some, List.map_cons, List.map_nil, List.getD_cons_zero, List.getD_cons_succ, List.getElem?_toArray, List.getElem?_cons_zero, List.getElem?_cons_succ, eq_self, beq_self_eq_true, goH, hrl, *]; done) | (simp only [goS, plainEv, resultsEv, resultListEv, reduceIte, Nat.reduceEqDiff, Option.map_some, Option.map_none, Option.bind_some, List.map_cons, List.map_nil, List.getD_cons_zero, List.getD_cons_succ, List.getElem?_toArray, List.getElem?_cons_zero, List.getElem?_cons_succ, eq_self, beq_self_eq_true, goH, hrl, *]; rfl)
                        · simp (disch := (first | assumption | omega | (exact (push_len _ _).symm) | (simp only [push_len, put_len, len_app]; omega) | (refine Nat.le_antisymm ?_ ?_ <;> simp only [push_len, put_len, len_app] <;> omega) | fail)) only [get_push_last, get_push_eq, get_push_ne, get_put_eq, get_put_ne, get_app]
                  · have hie : i = c.length := by omega
                    subst hie
                    have hlt5 : ¬ ((c.length : Int) < (c.length : Int)) := by omega
                    have hok : ok = false := by
                      cases ok with
                      | false => rfl
                      | true =>
                        obtain ⟨x, hx, hxn⟩ := kf6.out rfl
                        obtain ⟨j, hj, rfl⟩ := List.mem_iff_getElem.1 hx
                        exact absurd hxn (kno.out j _ hj (List.getElem?_eq_getElem hj))
                    have hn0 := kf4.out hok
                    subst hok
                    subst hn0
                    repeat' (first | simp (config := { maxSteps := 4000000 }) (disch := first | assumption | (exact Nat.le_refl _) | omega | (simp only [List.length_cons, List.length_nil, List.length_append, push_len, put_len, len_app] <;> omega) | (simp (disch := (first | assumption | omega | (exact (push_len _ _).symm) | (simp only [push_len, put_len, len_app]; omega) | (refine Nat.le_antisymm ?_ ?_ <;> simp only [push_len, put_len, len_app] <;> omega) | fail)) only [get_push_last, get_push_eq, get_push_ne, get_put_eq, get_put_ne, get_app] <;> first | assumption | rfl) | (simp only [canApp_push, canApp_put]; assumption) | (exact start_round _ _) | (simp only [st_round, dfr_round, pn_round]; first | assumption | exact start_round _ _) | fail) only [goS, plainEv, resultsEv, resultListEv, reduceIte, Nat.reduceEqDiff, Option.map_some, Option.map_none, Option.bind_some, List.map_cons, List.map_nil, List.getD_cons_zero, List.getD_cons_succ, List.getElem?_toArray, List.getElem?_cons_zero, List.getElem?_cons_succ, eq_self, beq_self_eq_true, goH, List.append_nil, List.nil_append, rs8, *] | (refine guard_dec (fun _ => ?_) (fun _ => ?_) <;> try (exfalso; omega)) | (refine guard_ndec (fun _ => ?_) (fun _ => ?_) <;> try (exfalso; omega)) | (refine branch_dec (fun _ => ?_) (fun _ => ?_) <;> try (exfalso; omega)) | (refine branch_ndec (fun _ => ?_) (fun _ => ?_) <;> try (exfalso; omega)) | refine guard_nbool (fun _ => ?_) (fun _ => ?_) | refine branch_nbool (fun _ => ?_) (fun _ => ?_) | refine guard_bool (fun _ => ?_) (fun _ => ?_) | refine branch_bool (fun _ => ?_) (fun _ => ?_))
                    exact ⟨_, rfl, trivial⟩
                · refine ⟨0, Nat.zero_le _, rfl, ?_, ?_, ?_, ?_, ?_, ?_, ?_, fun j x hj => absurd hj (Nat.not_lt_zero j)⟩ <;> first | assumption | (simp only [goS, plainEv, resultsEv, resultListEv, reduceIte, Nat.reduceEqDiff, Option.map_some, Option.map_none, Option.bind_some, List.map_cons, List.map_nil, List.getD_cons_zero, List.getD_cons_succ, List.getElem?_toArray, List.getElem?_cons_zero, List.getElem?_cons_succ, eq_self, beq_self_eq_true, goH, hrl, *]; done) | (simp only [goS, plainEv, resultsEv, resultListEv, reduceIte, Nat.reduceEqDiff, Option.map_some, Option.map_none, Option.bind_some, List.map_cons, List.map_nil, List.getD_cons_zero, List.getD_cons_succ, List.getElem?_toArray, List.getElem?_cons_zero, List.getElem?_cons_succ, eq_self, beq_self_eq_true, goH, hrl, *]; rfl)
            · refine ⟨0, .nil, 0, [], Nat.zero_le _, rfl, ?_, ?_, ?_, ?_, ?_, ?_, ?_, ?_, VRows.nil, .inl rfl, .inr ⟨rfl, rfl⟩, Ext.refl _, ko3.out⟩ <;> simp only [goS, plainEv, resultsEv, resultListEv, reduceIte, Nat.reduceEqDiff, Option.map_some, Option.map_none, Option.bind_some, List.map_cons, List.map_nil, List.getD_cons_zero, List.getD_cons_succ, List.getElem?_toArray, List.getElem?_cons_zero, List.getElem?_cons_succ, eq_self, beq_self_eq_true, goH, hlen] <;> rfl
end Go.Proofs.YtilmhlbjjfgeoaaDoor
end
