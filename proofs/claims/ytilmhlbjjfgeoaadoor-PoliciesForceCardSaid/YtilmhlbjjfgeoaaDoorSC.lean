/-
  Part of the proof: SC.
-/
import Derived.Test.YtilmhlbjjfgeoaaDoorSB
import Derived.Test.YtilmhlbjjfgeoaaDoorE4
set_option linter.unusedSimpArgs false
set_option linter.unusedVariables false
set_option linter.constructorNameAsVariable false
section
namespace Go.Proofs.YtilmhlbjjfgeoaaDoor
open Go.AE Go.Lex Go.Pol
/-! ### Pairwise different; named -/
def distinctB (l : List (List UInt8)) : Bool := (List.range l.length).all fun i => freeB (l.getD i []) && decide (idx l (l.getD i []) = i)
theorem distinct_no {l : List (List UInt8)} {i : Nat} (hi : i < l.length) (h : (freeB (l.getD i []) && decide (idx l (l.getD i []) = i)) = false) : distinctB l = false := by
  rw [Bool.eq_false_iff]
  intro ha
  have := List.all_eq_true.1 ha i (List.mem_range.2 hi)
  rw [h] at this; cases this
theorem res63 : Tryd.f63.results.toList = [.tmp 2] := by kernel_rfl
theorem res64 : Tryd.f64.results.toList = [.tmp 4] := by kernel_rfl
set_option maxHeartbeats 4000000 in
set_option maxRecDepth 100000 in
theorem refDistinct_ev (k : Tok) (sz : Nat) (l : List (List UInt8)) (hz : ∀ i : Nat, i < l.length → sz = 1) (hl : l.length ≤ 9223372036854775807) (h : Heap) : W.call 63 [.list k sz (strs l)] h = some (.ret (.v (.bool (distinctB l))), h) := by
  have u9 := Tryd.underlying9; have u22 := Tryd.underlying22; have a9 := ag9; have s9 := sz9
  refine call_of_run rfl Tryd.func63 rfl ?_
  repeat' (first | (simp (config := { maxSteps := 4000000 }) (disch := first | assumption | omega | (simp only [List.length_cons, List.length_nil, List.length_append] <;> omega)) only [goS, plainEv, resultsEv, resultListEv, reduceIte, Nat.reduceEqDiff, Option.map_some, Option.map_none, Option.bind_some, List.map_cons, List.map_nil, List.getD_cons_zero, List.getD_cons_succ, List.getElem?_toArray, List.getElem?_cons_zero, List.getElem?_cons_succ, eq_self, beq_self_eq_true, res63, strs_len, *]; done) | simp (config := { maxSteps := 4000000 }) (disch := first | assumption | omega | (simp only [List.length_cons, List.length_nil, List.length_append]; omega)) only [goS, plainEv, resultsEv, resultListEv, reduceIte, Nat.reduceEqDiff, Option.map_some, Option.map_none, Option.bind_some, List.map_cons, List.map_nil, List.getD_cons_zero, List.getD_cons_succ, List.getElem?_toArray, List.getElem?_cons_zero, List.getElem?_cons_succ, eq_self, beq_self_eq_true, res63, strs_len, *] | (refine guard_dec (fun _ => ?_) (fun _ => ?_) <;> try (exfalso; omega)) | (refine guard_ndec (fun _ => ?_) (fun _ => ?_) <;> try (exfalso; omega)) | (refine branch_dec (fun _ => ?_) (fun _ => ?_) <;> try (exfalso; omega)) | (refine branch_ndec (fun _ => ?_) (fun _ => ?_) <;> try (exfalso; omega)) | refine run_draw (by kernel_rfl) ?_ | refine guard_nbool (fun _ => ?_) (fun _ => ?_) | refine branch_nbool (fun _ => ?_) (fun _ => ?_) | refine guard_bool (fun _ => ?_) (fun _ => ?_) | refine branch_bool (fun _ => ?_) (fun _ => ?_))
  refine run_loop (fun m e h' => ∃ i : Nat, i ≤ l.length ∧ m = l.length - i ∧ e.get 0 = .list k sz (strs l) ∧ e.get 3 = .v (.int .i64 i) ∧ e.defers = [] ∧ h' = h ∧ ∀ j, j < i → (freeB (l.getD j []) && decide (idx l (l.getD j []) = j)) = true) ?_ l.length _ _ ?_
  · rintro m e h' ⟨i, hi, rfl, g0, g3, hd, rfl, hno⟩
    have kno := Keep.mk hno
    clear hno
    by_cases hlt : i < l.length
    · obtain ⟨x, hx⟩ : ∃ t, l[i]? = some t := ⟨_, List.getElem?_eq_getElem hlt⟩
      have hgx : l.getD i [] = x := by simp [List.getD, hx]
      have hix := refIndex_ev k sz l x hz hl h'
      obtain rfl := hz i hlt
      have hlt3 : (i : Int) < ((strs l).length : Int) := by rw [strs_len]; omega
      have kgx := Keep.mk hgx
      clear hgx
      repeat' (first | (simp (config := { maxSteps := 4000000 }) (disch := first | assumption | omega | (simp only [List.length_cons, List.length_nil, List.length_append] <;> omega)) only [goS, plainEv, resultsEv, resultListEv, reduceIte, Nat.reduceEqDiff, Option.map_some, Option.map_none, Option.bind_some, List.map_cons, List.map_nil, List.getD_cons_zero, List.getD_cons_succ, List.getElem?_toArray, List.getElem?_cons_zero, List.getElem?_cons_succ, eq_self, beq_self_eq_true, res63, strs_len, strs_get, index_list, load_row, cell_one, free_ev, *]; done) | simp (config := { maxSteps := 4000000 }) (disch := first | assumption | omega | (simp only [List.length_cons, List.length_nil, List.length_append]; omega)) only [goS, plainEv, resultsEv, resultListEv, reduceIte, Nat.reduceEqDiff, Option.map_some, Option.map_none, Option.bind_some, List.map_cons, List.map_nil, List.getD_cons_zero, List.getD_cons_succ, List.getElem?_toArray, List.getElem?_cons_zero, List.getElem?_cons_succ, eq_self, beq_self_eq_true, res63, strs_len, strs_get, index_list, load_row, cell_one, free_ev, *] | (refine guard_dec (fun _ => ?_) (fun _ => ?_) <;> try (exfalso; omega)) | (refine guard_ndec (fun _ => ?_) (fun _ => ?_) <;> try (exfalso; omega)) | (refine branch_dec (fun _ => ?_) (fun _ => ?_) <;> try (exfalso; omega)) | (refine branch_ndec (fun _ => ?_) (fun _ => ?_) <;> try (exfalso; omega)) | refine run_draw (by kernel_rfl) ?_ | refine guard_nbool (fun _ => ?_) (fun _ => ?_) | refine branch_nbool (fun _ => ?_) (fun _ => ?_) | refine guard_bool (fun _ => ?_) (fun _ => ?_) | refine branch_bool (fun _ => ?_) (fun _ => ?_))
      · rename_i hf hq
        refine ⟨l.length - (i + 1), by omega, i + 1, by omega, rfl, (by first | trivial | (simp; done) | (simp; omega)), (by first | trivial | (simp; done) | (simp; omega)), (by first | trivial | (simp; done) | (simp; omega)), (by first | trivial | (simp; done) | (simp; omega)), fun j hj => ?_⟩
        rcases Nat.lt_or_ge j i with q | q
        · exact kno.out j q
        · have : j = i := by omega
          subst this
          rw [kgx.out]
          simp [hf, hq]
      · rename_i hf hq
        refine answer2 (distinct_no hlt ?_).symm
        rw [kgx.out]
        simp [hf, hq]
      · rename_i hf
        refine answer2 (distinct_no hlt ?_).symm
        rw [kgx.out]
        simp [hf]
    · have hie : i = l.length := by omega
      subst hie
      repeat' (first | (simp (config := { maxSteps := 4000000 }) (disch := first | assumption | omega | (simp only [List.length_cons, List.length_nil, List.length_append] <;> omega)) only [goS, plainEv, resultsEv, resultListEv, reduceIte, Nat.reduceEqDiff, Option.map_some, Option.map_none, Option.bind_some, List.map_cons, List.map_nil, List.getD_cons_zero, List.getD_cons_succ, List.getElem?_toArray, List.getElem?_cons_zero, List.getElem?_cons_succ, eq_self, beq_self_eq_true, res63, strs_len, *]; done) | simp (config := { maxSteps := 4000000 }) (disch := first | assumption | omega | (simp only [List.length_cons, List.length_nil, List.length_append]; omega)) only [goS, plainEv, resultsEv, resultListEv, reduceIte, Nat.reduceEqDiff, Option.map_some, Option.map_none, Option.bind_some, List.map_cons, List.map_nil, List.getD_cons_zero, List.getD_cons_succ, List.getElem?_toArray, List.getElem?_cons_zero, List.getElem?_cons_succ, eq_self, beq_self_eq_true, res63, strs_len, *] | (refine guard_dec (fun _ => ?_) (fun _ => ?_) <;> try (exfalso; omega)) | (refine guard_ndec (fun _ => ?_) (fun _ => ?_) <;> try (exfalso; omega)) | (refine branch_dec (fun _ => ?_) (fun _ => ?_) <;> try (exfalso; omega)) | (refine branch_ndec (fun _ => ?_) (fun _ => ?_) <;> try (exfalso; omega)) | refine run_draw (by kernel_rfl) ?_ | refine guard_nbool (fun _ => ?_) (fun _ => ?_) | refine branch_nbool (fun _ => ?_) (fun _ => ?_) | refine guard_bool (fun _ => ?_) (fun _ => ?_) | refine branch_bool (fun _ => ?_) (fun _ => ?_))
      refine answer2 ?_
      symm
      exact List.all_eq_true.2 fun i hi => kno.out i (List.mem_range.1 hi)
  · refine ⟨0, Nat.zero_le _, rfl, ?_, ?_, ?_, rfl, fun j hj => absurd hj (Nat.not_lt_zero j)⟩ <;> simp only [goS, plainEv, resultsEv, resultListEv, reduceIte, Nat.reduceEqDiff, Option.map_some, Option.map_none, Option.bind_some, List.map_cons, List.map_nil, List.getD_cons_zero, List.getD_cons_succ, List.getElem?_toArray, List.getElem?_cons_zero, List.getElem?_cons_succ, eq_self, beq_self_eq_true] <;> rfl
end Go.Proofs.YtilmhlbjjfgeoaaDoor
end

section
namespace Go.Proofs.YtilmhlbjjfgeoaaDoor
open Go.AE Go.Lex Go.Pol
mutual
noncomputable def namedE (o : List (List UInt8)) : Ex → Bool
  | .mk k _ _ s l => !((decide (k = 1) || decide (k = 2)) && decide (idx o s < 0)) && namedL o l
noncomputable def namedL (o : List (List UInt8)) : List Ex → Bool
  | [] => true
  | x :: r => namedE o x && namedL o r
end
theorem namedL_iff {o : List (List UInt8)} : ∀ {l : List Ex}, namedL o l = true ↔ ∀ x ∈ l, namedE o x = true := by
  intro l
  induction l with
  | nil => rw [namedL]; simp
  | cons x l ih => rw [namedL, Bool.and_eq_true, ih]; simp
theorem namedL_no {o : List (List UInt8)} {l : List Ex} {x : Ex} (hx : x ∈ l) (h : namedE o x = false) : namedL o l = false := by
  rw [Bool.eq_false_iff]
  intro q
  have := namedL_iff.1 q x hx
  rw [h] at this; cases this
set_option maxHeartbeats 4000000 in
set_option maxRecDepth 100000 in
theorem named_ev (tk : Tok) (so : Nat) (o : List (List UInt8)) (hz : ∀ i : Nat, i < o.length → so = 1) (hl : o.length ≤ 9223372036854775807) : ∀ (x : Ex) (row : List AV), Row x row → ∀ h, Says W 64 [.list tk so (strs o), .agg row] h (.ret (.v (.bool (namedE o x)))) := by
  intro x
  induction x using Ex.ind with
  | h kk nn no name l ih =>
    intro row hrow h
    obtain ⟨tok, sz, rows, rfl, hrows, hsz, hbd⟩ := Row.five hrow
    clear hrow
    have ux := Tryd.underlying24
    have a3 := ag3; have a9 := ag9; have a24 := ag24; have a26 := ag26; have s26 := sz26
    have hlen := hrows.1
    simp only [Ex.kind, Ex.n, Ex.no, Ex.name, Ex.l] at hrows hsz hlen hbd ⊢
    have kr := Keep.mk hrows
    have kz := Keep.mk hsz
    have kih := Keep.mk ih
    have hix := fun h => refIndex_ev tk so o name hz hl h
    clear hrows hsz ih hz
    rw [namedE]
    refine call_ex rfl Tryd.func64 rfl ?_
    by_cases hbad : (kk = 1 ∨ kk = 2) ∧ idx o name < 0
    · obtain ⟨hk, hneg⟩ := hbad
      repeat' (first | simp (config := { maxSteps := 4000000 }) (disch := first | assumption | (exact Nat.le_refl _) | omega | (simp only [List.length_cons, List.length_nil, List.length_append, push_len, put_len, len_app] <;> omega) | (simp (disch := (first | assumption | omega | (exact (push_len _ _).symm) | (simp only [push_len, put_len, len_app]; omega) | (refine Nat.le_antisymm ?_ ?_ <;> simp only [push_len, put_len, len_app] <;> omega) | fail)) only [get_push_last, get_push_eq, get_push_ne, get_put_eq, get_put_ne, get_app] <;> first | assumption | rfl) | (simp only [canApp_push, canApp_put]; assumption) | (exact start_round _ _) | (simp only [st_round, dfr_round, pn_round]; first | assumption | exact start_round _ _) | fail) only [goS, plainEv, resultsEv, resultListEv, reduceIte, Nat.reduceEqDiff, Option.map_some, Option.map_none, Option.bind_some, List.map_cons, List.map_nil, List.getD_cons_zero, List.getD_cons_succ, List.getElem?_toArray, List.getElem?_cons_zero, List.getElem?_cons_succ, eq_self, beq_self_eq_true, goH, List.append_nil, List.nil_append, res64, row5_cells, row5_0, row5_3, fa26_0, fa26_3, *] | (refine guard_dec (fun _ => ?_) (fun _ => ?_) <;> try (exfalso; omega)) | (refine guard_ndec (fun _ => ?_) (fun _ => ?_) <;> try (exfalso; omega)) | (refine branch_dec (fun _ => ?_) (fun _ => ?_) <;> try (exfalso; omega)) | (refine branch_ndec (fun _ => ?_) (fun _ => ?_) <;> try (exfalso; omega)) | refine run_draw (by kernel_rfl) ?_ | refine guard_nbool (fun _ => ?_) (fun _ => ?_) | refine branch_nbool (fun _ => ?_) (fun _ => ?_) | refine guard_bool (fun _ => ?_) (fun _ => ?_) | refine branch_bool (fun _ => ?_) (fun _ => ?_))
      all_goals
        refine answerY ?_ (.push _ _)
        simp_all
    · have htrue : (!((decide (kk = 1) || decide (kk = 2)) && decide (idx o name < 0))) = true := by
        rw [Bool.not_eq_true', Bool.and_eq_false_iff]
        by_cases q : kk = 1 ∨ kk = 2
        · right; simpa using fun q2 => hbad ⟨q, q2⟩
        · left; simpa using ⟨fun q1 => q (.inl q1), fun q1 => q (.inr q1)⟩
      rw [htrue, Bool.true_and]
      clear htrue
      have kb0 := Keep.mk hbad
      have hcase : (kk < 1 ∨ 2 < kk) ∨ 0 ≤ idx o name := by omega
      clear hbad
      repeat' (first | simp (config := { maxSteps := 4000000 }) (disch := first | assumption | (exact Nat.le_refl _) | omega | (simp only [List.length_cons, List.length_nil, List.length_append, push_len, put_len, len_app] <;> omega) | (simp (disch := (first | assumption | omega | (exact (push_len _ _).symm) | (simp only [push_len, put_len, len_app]; omega) | (refine Nat.le_antisymm ?_ ?_ <;> simp only [push_len, put_len, len_app] <;> omega) | fail)) only [get_push_last, get_push_eq, get_push_ne, get_put_eq, get_put_ne, get_app] <;> first | assumption | rfl) | (simp only [canApp_push, canApp_put]; assumption) | (exact start_round _ _) | (simp only [st_round, dfr_round, pn_round]; first | assumption | exact start_round _ _) | fail) only [goS, plainEv, resultsEv, resultListEv, reduceIte, Nat.reduceEqDiff, Option.map_some, Option.map_none, Option.bind_some, List.map_cons, List.map_nil, List.getD_cons_zero, List.getD_cons_succ, List.getElem?_toArray, List.getElem?_cons_zero, List.getElem?_cons_succ, eq_self, beq_self_eq_true, goH, List.append_nil, List.nil_append, res64, row5_cells, row5_0, row5_3, fa26_0, fa26_3, *] | (refine guard_dec (fun _ => ?_) (fun _ => ?_) <;> try (exfalso; omega)) | (refine guard_ndec (fun _ => ?_) (fun _ => ?_) <;> try (exfalso; omega)) | (refine branch_dec (fun _ => ?_) (fun _ => ?_) <;> try (exfalso; omega)) | (refine branch_ndec (fun _ => ?_) (fun _ => ?_) <;> try (exfalso; omega)) | refine run_draw (by kernel_rfl) ?_ | refine guard_nbool (fun _ => ?_) (fun _ => ?_) | refine branch_nbool (fun _ => ?_) (fun _ => ?_) | refine guard_bool (fun _ => ?_) (fun _ => ?_) | refine branch_bool (fun _ => ?_) (fun _ => ?_))
      all_goals
        refine run_loop (fun m e h' => ∃ (i : Nat), i ≤ l.length ∧ m = l.length - i ∧ e.get 0 = .list tk so (strs o) ∧ e.get 3 = .ptr (.box h.boxes.length) 0 ∧ e.get 5 = .v (.int .i64 i) ∧ e.defers = [] ∧ Ext h h' ∧
          (∃ k2, h'.boxes[h.boxes.length]? = some (row5 k2 nn no name tok sz rows)) ∧ ∀ x ∈ l.take i, namedE o x = true) ?_ l.length _ _ ?_
        · rintro m e h' ⟨i, hi, rfl, g0, g3, g5, hd, hx, ⟨k2, hb⟩, hno⟩
          have kx := Keep.mk hx
          have kno := Keep.mk hno
          clear hx hno
          by_cases hlt : i < l.length
          · obtain ⟨y, r, hy, hr, hyr⟩ := kr.out.get hlt
            have h5 := kz.out i hlt
            subst h5
            have hlt3 : (i : Int) < (rows.length : Int) := by rw [hlen]; omega
            have ht5 := take5 hyr.len
            have hle5 : 5 ≤ (r.drop 0).length := by rw [List.drop_zero, hyr.len]; exact Nat.le_refl _
            obtain ⟨h2, hc, hx2⟩ := kih.out y (List.mem_of_getElem? hy) r hyr h'
            have kx2 := Keep.mk hx2
            have kb := Keep.mk hb
            clear hx2
            by_cases hs : namedE o y = true
            · rw [hs] at hc
              have khs := Keep.mk hs
              clear hs
              repeat' (first | simp (config := { maxSteps := 4000000 }) (disch := first | assumption | (exact Nat.le_refl _) | omega | (simp only [List.length_cons, List.length_nil, List.length_append, push_len, put_len, len_app] <;> omega) | (simp (disch := (first | assumption | omega | (exact (push_len _ _).symm) | (simp only [push_len, put_len, len_app]; omega) | (refine Nat.le_antisymm ?_ ?_ <;> simp only [push_len, put_len, len_app] <;> omega) | fail)) only [get_push_last, get_push_eq, get_push_ne, get_put_eq, get_put_ne, get_app] <;> first | assumption | rfl) | (simp only [canApp_push, canApp_put]; assumption) | (exact start_round _ _) | (simp only [st_round, dfr_round, pn_round]; first | assumption | exact start_round _ _) | fail) only [goS, plainEv, resultsEv, resultListEv, reduceIte, Nat.reduceEqDiff, Option.map_some, Option.map_none, Option.bind_some, List.map_cons, List.map_nil, List.getD_cons_zero, List.getD_cons_succ, List.getElem?_toArray, List.getElem?_cons_zero, List.getElem?_cons_succ, eq_self, beq_self_eq_true, goH, List.append_nil, List.nil_append, res64, row5_4, fa26_4, index_list, load_row_agg, *] | (refine guard_dec (fun _ => ?_) (fun _ => ?_) <;> try (exfalso; omega)) | (refine guard_ndec (fun _ => ?_) (fun _ => ?_) <;> try (exfalso; omega)) | (refine branch_dec (fun _ => ?_) (fun _ => ?_) <;> try (exfalso; omega)) | (refine branch_ndec (fun _ => ?_) (fun _ => ?_) <;> try (exfalso; omega)) | refine run_draw (by kernel_rfl) ?_ | refine guard_nbool (fun _ => ?_) (fun _ => ?_) | refine branch_nbool (fun _ => ?_) (fun _ => ?_) | refine guard_bool (fun _ => ?_) (fun _ => ?_) | refine branch_bool (fun _ => ?_) (fun _ => ?_))
              refine ⟨l.length - (i + 1), by omega, i + 1, by omega, rfl, (by first | trivial | (simp; done) | (simp; omega)), (by first | trivial | (simp; done) | (simp; omega)), (by first | trivial | (simp; done) | (simp; omega)), (by first | trivial | (simp; done) | (simp; omega)), kx.out.trans kx2.out, ⟨k2, kx2.out.box _ _ kb.out⟩, fun x hx => ?_⟩
              obtain ⟨hj, rfl⟩ := List.getElem?_eq_some_iff.1 hy
              rw [List.take_succ_eq_append_getElem hj] at hx
              rcases List.mem_append.1 hx with q | q
              · exact kno.out x q
              · simp at q; subst q; exact khs.out
            · have hs : namedE o y = false := by simpa using hs
              rw [hs] at hc
              have khs := Keep.mk hs
              clear hs
              repeat' (first | simp (config := { maxSteps := 4000000 }) (disch := first | assumption | (exact Nat.le_refl _) | omega | (simp only [List.length_cons, List.length_nil, List.length_append, push_len, put_len, len_app] <;> omega) | (simp (disch := (first | assumption | omega | (exact (push_len _ _).symm) | (simp only [push_len, put_len, len_app]; omega) | (refine Nat.le_antisymm ?_ ?_ <;> simp only [push_len, put_len, len_app] <;> omega) | fail)) only [get_push_last, get_push_eq, get_push_ne, get_put_eq, get_put_ne, get_app] <;> first | assumption | rfl) | (simp only [canApp_push, canApp_put]; assumption) | (exact start_round _ _) | (simp only [st_round, dfr_round, pn_round]; first | assumption | exact start_round _ _) | fail) only [goS, plainEv, resultsEv, resultListEv, reduceIte, Nat.reduceEqDiff, Option.map_some, Option.map_none, Option.bind_some, List.map_cons, List.map_nil, List.getD_cons_zero, List.getD_cons_succ, List.getElem?_toArray, List.getElem?_cons_zero, List.getElem?_cons_succ, eq_self, beq_self_eq_true, goH, List.append_nil, List.nil_append, res64, row5_4, fa26_4, index_list, load_row_agg, *] | (refine guard_dec (fun _ => ?_) (fun _ => ?_) <;> try (exfalso; omega)) | (refine guard_ndec (fun _ => ?_) (fun _ => ?_) <;> try (exfalso; omega)) | (refine branch_dec (fun _ => ?_) (fun _ => ?_) <;> try (exfalso; omega)) | (refine branch_ndec (fun _ => ?_) (fun _ => ?_) <;> try (exfalso; omega)) | refine run_draw (by kernel_rfl) ?_ | refine guard_nbool (fun _ => ?_) (fun _ => ?_) | refine branch_nbool (fun _ => ?_) (fun _ => ?_) | refine guard_bool (fun _ => ?_) (fun _ => ?_) | refine branch_bool (fun _ => ?_) (fun _ => ?_))
              exact answerY (namedL_no (List.mem_of_getElem? hy) khs.out).symm (kx.out.trans kx2.out)
          · have hie : i = l.length := by omega
            subst hie
            have hlt3 : ¬ ((l.length : Int) < (rows.length : Int)) := by rw [hlen]; omega
            repeat' (first | simp (config := { maxSteps := 4000000 }) (disch := first | assumption | (exact Nat.le_refl _) | omega | (simp only [List.length_cons, List.length_nil, List.length_append, push_len, put_len, len_app] <;> omega) | (simp (disch := (first | assumption | omega | (exact (push_len _ _).symm) | (simp only [push_len, put_len, len_app]; omega) | (refine Nat.le_antisymm ?_ ?_ <;> simp only [push_len, put_len, len_app] <;> omega) | fail)) only [get_push_last, get_push_eq, get_push_ne, get_put_eq, get_put_ne, get_app] <;> first | assumption | rfl) | (simp only [canApp_push, canApp_put]; assumption) | (exact start_round _ _) | (simp only [st_round, dfr_round, pn_round]; first | assumption | exact start_round _ _) | fail) only [goS, plainEv, resultsEv, resultListEv, reduceIte, Nat.reduceEqDiff, Option.map_some, Option.map_none, Option.bind_some, List.map_cons, List.map_nil, List.getD_cons_zero, List.getD_cons_succ, List.getElem?_toArray, List.getElem?_cons_zero, List.getElem?_cons_succ, eq_self, beq_self_eq_true, goH, List.append_nil, List.nil_append, res64, row5_4, fa26_4, *] | (refine guard_dec (fun _ => ?_) (fun _ => ?_) <;> try (exfalso; omega)) | (refine guard_ndec (fun _ => ?_) (fun _ => ?_) <;> try (exfalso; omega)) | (refine branch_dec (fun _ => ?_) (fun _ => ?_) <;> try (exfalso; omega)) | (refine branch_ndec (fun _ => ?_) (fun _ => ?_) <;> try (exfalso; omega)) | refine run_draw (by kernel_rfl) ?_ | refine guard_nbool (fun _ => ?_) (fun _ => ?_) | refine branch_nbool (fun _ => ?_) (fun _ => ?_) | refine guard_bool (fun _ => ?_) (fun _ => ?_) | refine branch_bool (fun _ => ?_) (fun _ => ?_))
            exact answerY (namedL_iff.2 fun x hx => kno.out x (by rw [List.take_length]; exact hx)).symm kx.out
        · refine ⟨0, Nat.zero_le _, rfl, ?_, ?_, ?_, ?_, .push _ _, ⟨_, push_last _ _⟩, fun x hx => by simp at hx⟩ <;> simp only [goS, plainEv, resultsEv, resultListEv, reduceIte, Nat.reduceEqDiff, Option.map_some, Option.map_none, Option.bind_some, List.map_cons, List.map_nil, List.getD_cons_zero, List.getD_cons_succ, List.getElem?_toArray, List.getElem?_cons_zero, List.getElem?_cons_succ, eq_self, beq_self_eq_true, goH] <;> rfl
end Go.Proofs.YtilmhlbjjfgeoaaDoor
end

section
namespace Go.Proofs.YtilmhlbjjfgeoaaDoor
open Go.AE Go.Lex Go.Pol
/-- Is a part formed, by itself? -/
def formB (k n : Int) (s : List UInt8) (m : Nat) (up : Bool) : Bool :=
  if k = 1 then decide (n = 0) && decide (m = 0)
  else if k = 2 then decide (1 ≤ n) && decide (n ≤ 4096) && decide (m = 0)
  else if k = 3 then decide (s = []) && decide (1 ≤ m) && decide (m ≤ 16) && decide (1 ≤ n) && decide (n ≤ m)
  else if k = 4 then up && decide (s = []) && decide (m = 2) && decide (0 ≤ n) && decide (n ≤ 1099511627776)
  else false
mutual
def formedE (up : Bool) : Ex → Bool
  | .mk k n _ s l => formedL up l && formB k n s l.length up
def formedL (up : Bool) : List Ex → Bool
  | [] => true
  | x :: r => formedE up x && formedL up r
end
theorem formedL_iff {up : Bool} : ∀ {l : List Ex}, formedL up l = true ↔ ∀ x ∈ l, formedE up x = true := by
  intro l
  induction l with
  | nil => rw [formedL]; simp
  | cons x l ih => rw [formedL, Bool.and_eq_true, ih]; simp
theorem formedL_no {up : Bool} {l : List Ex} {x : Ex} (hx : x ∈ l) (h : formedE up x = false) : formedL up l = false := by
  rw [Bool.eq_false_iff]
  intro q
  have := formedL_iff.1 q x hx
  rw [h] at this; cases this
theorem res65 : Tryd.f65.results.toList = [.tmp 4] := by kernel_rfl
set_option maxHeartbeats 8000000 in
set_option maxRecDepth 100000 in
theorem formedE_ev (up : Bool) : ∀ (x : Ex) (row : List AV), Row x row → ∀ h, Says W 65 [.agg row, .v (.bool up)] h (.ret (.v (.bool (formedE up x)))) := by
  intro x
  induction x using Ex.ind with
  | h kk nn no name l ih =>
    intro row hrow h
    obtain ⟨tok, sz, rows, rfl, hrows, hsz, hbd⟩ := Row.five hrow
    clear hrow
    have ux := Tryd.underlying24
    have a3 := ag3; have a9 := ag9; have a24 := ag24; have a26 := ag26; have s26 := sz26
    have hlen := hrows.1
    simp only [Ex.kind, Ex.n, Ex.no, Ex.name, Ex.l] at hrows hsz hlen hbd ⊢
    have kr := Keep.mk hrows
    have kz := Keep.mk hsz
    have kih := Keep.mk ih
    clear hrows hsz ih
    rw [formedE]
    refine call_ex rfl Tryd.func65 rfl ?_
    repeat' (first | simp (config := { maxSteps := 4000000 }) (disch := first | assumption | (exact Nat.le_refl _) | omega | (simp only [List.length_cons, List.length_nil, List.length_append, push_len, put_len, len_app] <;> omega) | (simp (disch := (first | assumption | omega | (exact (push_len _ _).symm) | (simp only [push_len, put_len, len_app]; omega) | (refine Nat.le_antisymm ?_ ?_ <;> simp only [push_len, put_len, len_app] <;> omega) | fail)) only [get_push_last, get_push_eq, get_push_ne, get_put_eq, get_put_ne, get_app] <;> first | assumption | rfl) | (simp only [canApp_push, canApp_put]; assumption) | (exact start_round _ _) | (simp only [st_round, dfr_round, pn_round]; first | assumption | exact start_round _ _) | fail) only [goS, plainEv, resultsEv, resultListEv, reduceIte, Nat.reduceEqDiff, Option.map_some, Option.map_none, Option.bind_some, List.map_cons, List.map_nil, List.getD_cons_zero, List.getD_cons_succ, List.getElem?_toArray, List.getElem?_cons_zero, List.getElem?_cons_succ, eq_self, beq_self_eq_true, goH, List.append_nil, List.nil_append, res65, row5_cells, *] | (refine guard_dec (fun _ => ?_) (fun _ => ?_) <;> try (exfalso; omega)) | (refine guard_ndec (fun _ => ?_) (fun _ => ?_) <;> try (exfalso; omega)) | (refine branch_dec (fun _ => ?_) (fun _ => ?_) <;> try (exfalso; omega)) | (refine branch_ndec (fun _ => ?_) (fun _ => ?_) <;> try (exfalso; omega)) | refine run_draw (by kernel_rfl) ?_ | refine guard_nbool (fun _ => ?_) (fun _ => ?_) | refine branch_nbool (fun _ => ?_) (fun _ => ?_) | refine guard_bool (fun _ => ?_) (fun _ => ?_) | refine branch_bool (fun _ => ?_) (fun _ => ?_))
    refine run_loop (fun m e h' => ∃ (i : Nat), i ≤ l.length ∧ m = l.length - i ∧ e.get 1 = .v (.bool up) ∧ e.get 2 = .ptr (.box h.boxes.length) 0 ∧ e.get 5 = .v (.int .i64 i) ∧ e.defers = [] ∧ Ext h h' ∧
      h'.boxes[h.boxes.length]? = some (row5 kk nn no name tok sz rows) ∧ ∀ x ∈ l.take i, formedE up x = true) ?_ l.length _ _ ?_
    · rintro m e h' ⟨i, hi, rfl, g1, g2, g5, hd, hx, hb, hno⟩
      have kx := Keep.mk hx
      have kno := Keep.mk hno
      clear hx hno
      by_cases hlt : i < l.length
      · obtain ⟨y, r, hy, hr, hyr⟩ := kr.out.get hlt
        have h5 := kz.out i hlt
        subst h5
        have hlt3 : (i : Int) < (rows.length : Int) := by rw [hlen]; omega
        have ht5 := take5 hyr.len
        have hle5 : 5 ≤ (r.drop 0).length := by rw [List.drop_zero, hyr.len]; exact Nat.le_refl _
        obtain ⟨h2, hc, hx2⟩ := kih.out y (List.mem_of_getElem? hy) r hyr h'
        have kx2 := Keep.mk hx2
        have kb := Keep.mk hb
        clear hx2
        by_cases hs : formedE up y = true
        · rw [hs] at hc
          have khs := Keep.mk hs
          clear hs
          repeat' (first | simp (config := { maxSteps := 4000000 }) (disch := first | assumption | (exact Nat.le_refl _) | omega | (simp only [List.length_cons, List.length_nil, List.length_append, push_len, put_len, len_app] <;> omega) | (simp (disch := (first | assumption | omega | (exact (push_len _ _).symm) | (simp only [push_len, put_len, len_app]; omega) | (refine Nat.le_antisymm ?_ ?_ <;> simp only [push_len, put_len, len_app] <;> omega) | fail)) only [get_push_last, get_push_eq, get_push_ne, get_put_eq, get_put_ne, get_app] <;> first | assumption | rfl) | (simp only [canApp_push, canApp_put]; assumption) | (exact start_round _ _) | (simp only [st_round, dfr_round, pn_round]; first | assumption | exact start_round _ _) | fail) only [goS, plainEv, resultsEv, resultListEv, reduceIte, Nat.reduceEqDiff, Option.map_some, Option.map_none, Option.bind_some, List.map_cons, List.map_nil, List.getD_cons_zero, List.getD_cons_succ, List.getElem?_toArray, List.getElem?_cons_zero, List.getElem?_cons_succ, eq_self, beq_self_eq_true, goH, List.append_nil, List.nil_append, res65, row5_4, fa26_4, index_list, load_row_agg, *] | (refine guard_dec (fun _ => ?_) (fun _ => ?_) <;> try (exfalso; omega)) | (refine guard_ndec (fun _ => ?_) (fun _ => ?_) <;> try (exfalso; omega)) | (refine branch_dec (fun _ => ?_) (fun _ => ?_) <;> try (exfalso; omega)) | (refine branch_ndec (fun _ => ?_) (fun _ => ?_) <;> try (exfalso; omega)) | refine run_draw (by kernel_rfl) ?_ | refine guard_nbool (fun _ => ?_) (fun _ => ?_) | refine branch_nbool (fun _ => ?_) (fun _ => ?_) | refine guard_bool (fun _ => ?_) (fun _ => ?_) | refine branch_bool (fun _ => ?_) (fun _ => ?_))
          refine ⟨l.length - (i + 1), by omega, i + 1, by omega, rfl, (by first | trivial | (simp; done) | (simp; omega)), (by first | trivial | (simp; done) | (simp; omega)), (by first | trivial | (simp; done) | (simp; omega)), (by first | trivial | (simp; done) | (simp; omega)), kx.out.trans kx2.out, kx2.out.box _ _ kb.out, fun x hx => ?_⟩
          obtain ⟨hj, rfl⟩ := List.getElem?_eq_some_iff.1 hy
          rw [List.take_succ_eq_append_getElem hj] at hx
          rcases List.mem_append.1 hx with q | q
          · exact kno.out x q
          · simp at q; subst q; exact khs.out
        · have hs : formedE up y = false := by simpa using hs
          rw [hs] at hc
          have khs := Keep.mk hs
          clear hs
          repeat' (first | simp (config := { maxSteps := 4000000 }) (disch := first | assumption | (exact Nat.le_refl _) | omega | (simp only [List.length_cons, List.length_nil, List.length_append, push_len, put_len, len_app] <;> omega) | (simp (disch := (first | assumption | omega | (exact (push_len _ _).symm) | (simp only [push_len, put_len, len_app]; omega) | (refine Nat.le_antisymm ?_ ?_ <;> simp only [push_len, put_len, len_app] <;> omega) | fail)) only [get_push_last, get_push_eq, get_push_ne, get_put_eq, get_put_ne, get_app] <;> first | assumption | rfl) | (simp only [canApp_push, canApp_put]; assumption) | (exact start_round _ _) | (simp only [st_round, dfr_round, pn_round]; first | assumption | exact start_round _ _) | fail) only [goS, plainEv, resultsEv, resultListEv, reduceIte, Nat.reduceEqDiff, Option.map_some, Option.map_none, Option.bind_some, List.map_cons, List.map_nil, List.getD_cons_zero, List.getD_cons_succ, List.getElem?_toArray, List.getElem?_cons_zero, List.getElem?_cons_succ, eq_self, beq_self_eq_true, goH, List.append_nil, List.nil_append, res65, row5_4, fa26_4, index_list, load_row_agg, *] | (refine guard_dec (fun _ => ?_) (fun _ => ?_) <;> try (exfalso; omega)) | (refine guard_ndec (fun _ => ?_) (fun _ => ?_) <;> try (exfalso; omega)) | (refine branch_dec (fun _ => ?_) (fun _ => ?_) <;> try (exfalso; omega)) | (refine branch_ndec (fun _ => ?_) (fun _ => ?_) <;> try (exfalso; omega)) | refine run_draw (by kernel_rfl) ?_ | refine guard_nbool (fun _ => ?_) (fun _ => ?_) | refine branch_nbool (fun _ => ?_) (fun _ => ?_) | refine guard_bool (fun _ => ?_) (fun _ => ?_) | refine branch_bool (fun _ => ?_) (fun _ => ?_))
          refine answerY ?_ (kx.out.trans kx2.out)
          rw [formedL_no (List.mem_of_getElem? hy) khs.out]
          rfl
      · have hie : i = l.length := by omega
        subst hie
        have hfl : formedL up l = true := formedL_iff.2 fun x hx => kno.out x (by rw [List.take_length]; exact hx)
        have hlt3 : ¬ ((l.length : Int) < (rows.length : Int)) := by rw [hlen]; omega
        rw [hfl, Bool.true_and]
        clear hfl hlt
        repeat' (first | simp (config := { maxSteps := 4000000 }) (disch := first | assumption | (exact Nat.le_refl _) | omega | (simp only [List.length_cons, List.length_nil, List.length_append, push_len, put_len, len_app] <;> omega) | (simp (disch := (first | assumption | omega | (exact (push_len _ _).symm) | (simp only [push_len, put_len, len_app]; omega) | (refine Nat.le_antisymm ?_ ?_ <;> simp only [push_len, put_len, len_app] <;> omega) | fail)) only [get_push_last, get_push_eq, get_push_ne, get_put_eq, get_put_ne, get_app] <;> first | assumption | rfl) | (simp only [canApp_push, canApp_put]; assumption) | (exact start_round _ _) | (simp only [st_round, dfr_round, pn_round]; first | assumption | exact start_round _ _) | fail) only [goS, plainEv, resultsEv, resultListEv, reduceIte, Nat.reduceEqDiff, Option.map_some, Option.map_none, Option.bind_some, List.map_cons, List.map_nil, List.getD_cons_zero, List.getD_cons_succ, List.getElem?_toArray, List.getElem?_cons_zero, List.getElem?_cons_succ, eq_self, beq_self_eq_true, goH, List.append_nil, List.nil_append, res65, row5_0, row5_1, row5_3, row5_4, fa26_0, fa26_1, fa26_3, fa26_4, *] | (refine guard_dec (fun _ => ?_) (fun _ => ?_) <;> try (exfalso; omega)) | (refine guard_ndec (fun _ => ?_) (fun _ => ?_) <;> try (exfalso; omega)) | (refine branch_dec (fun _ => ?_) (fun _ => ?_) <;> try (exfalso; omega)) | (refine branch_ndec (fun _ => ?_) (fun _ => ?_) <;> try (exfalso; omega)) | refine run_draw (by kernel_rfl) ?_ | refine guard_nbool (fun _ => ?_) (fun _ => ?_) | refine branch_nbool (fun _ => ?_) (fun _ => ?_) | refine guard_bool (fun _ => ?_) (fun _ => ?_) | refine branch_bool (fun _ => ?_) (fun _ => ?_))
        all_goals
          refine answerY ?_ kx.out
          simp_all [formB]
          try (first | omega | (intros; omega))
    · refine ⟨0, Nat.zero_le _, rfl, ?_, ?_, ?_, ?_, .push _ _, push_last _ _, fun x hx => by simp at hx⟩ <;> simp only [goS, plainEv, resultsEv, resultListEv, reduceIte, Nat.reduceEqDiff, Option.map_some, Option.map_none, Option.bind_some, List.map_cons, List.map_nil, List.getD_cons_zero, List.getD_cons_succ, List.getElem?_toArray, List.getElem?_cons_zero, List.getElem?_cons_succ, eq_self, beq_self_eq_true, goH] <;> rfl
end Go.Proofs.YtilmhlbjjfgeoaaDoor
end

section
namespace Go.Proofs.YtilmhlbjjfgeoaaDoor
open Go.AE Go.Lex Go.Pol
theorem res48 : Tryd.f48.results.toList = [.tmp 6] := by kernel_rfl
theorem res58 : Tryd.f58.results.toList = [.tmp 2] := by kernel_rfl
set_option maxHeartbeats 4000000 in
set_option maxRecDepth 100000 in
theorem within_ev (a b c : Int) (h : Heap) : W.call 48 [.v (.int .i64 a), .v (.int .i64 b), .v (.int .i64 c)] h = some (.ret (.v (.bool (decide (b ≤ a) && decide (a ≤ c)))), h) := by
  refine call_of_run rfl Tryd.func48 rfl ?_
  repeat' (first | (simp (config := { maxSteps := 4000000 }) (disch := first | assumption | omega | (simp only [List.length_cons, List.length_nil, List.length_append] <;> omega)) only [goS, plainEv, resultsEv, resultListEv, reduceIte, Nat.reduceEqDiff, Option.map_some, Option.map_none, Option.bind_some, List.map_cons, List.map_nil, List.getD_cons_zero, List.getD_cons_succ, List.getElem?_toArray, List.getElem?_cons_zero, List.getElem?_cons_succ, eq_self, beq_self_eq_true, res48, *]; done) | simp (config := { maxSteps := 4000000 }) (disch := first | assumption | omega | (simp only [List.length_cons, List.length_nil, List.length_append]; omega)) only [goS, plainEv, resultsEv, resultListEv, reduceIte, Nat.reduceEqDiff, Option.map_some, Option.map_none, Option.bind_some, List.map_cons, List.map_nil, List.getD_cons_zero, List.getD_cons_succ, List.getElem?_toArray, List.getElem?_cons_zero, List.getElem?_cons_succ, eq_self, beq_self_eq_true, res48, *] | (refine guard_dec (fun _ => ?_) (fun _ => ?_) <;> try (exfalso; omega)) | (refine guard_ndec (fun _ => ?_) (fun _ => ?_) <;> try (exfalso; omega)) | (refine branch_dec (fun _ => ?_) (fun _ => ?_) <;> try (exfalso; omega)) | (refine branch_ndec (fun _ => ?_) (fun _ => ?_) <;> try (exfalso; omega)) | refine run_draw (by kernel_rfl) ?_ | refine guard_nbool (fun _ => ?_) (fun _ => ?_) | refine branch_nbool (fun _ => ?_) (fun _ => ?_) | refine guard_bool (fun _ => ?_) (fun _ => ?_) | refine branch_bool (fun _ => ?_) (fun _ => ?_))
  all_goals
    refine answer2 ?_
    simp_all
set_option maxHeartbeats 4000000 in
set_option maxRecDepth 100000 in
theorem isNamed_ev (x : Ex) (row : List AV) (hr : Row x row) (h : Heap) : W.call 58 [.agg row] h = some (.ret (.v (.bool (decide (x.kind = 1) || decide (x.kind = 2)))), h.push row) := by
  obtain ⟨tok, sz, rows, rfl, -, -, -⟩ := Row.five hr
  have a3 := ag3
  clear hr
  refine call_of_run rfl Tryd.func58 rfl ?_
  repeat' (first | simp (config := { maxSteps := 4000000 }) (disch := first | assumption | (exact Nat.le_refl _) | omega | (simp only [List.length_cons, List.length_nil, List.length_append, push_len, put_len, len_app] <;> omega) | (simp (disch := (first | assumption | omega | (exact (push_len _ _).symm) | (simp only [push_len, put_len, len_app]; omega) | (refine Nat.le_antisymm ?_ ?_ <;> simp only [push_len, put_len, len_app] <;> omega) | fail)) only [get_push_last, get_push_eq, get_push_ne, get_put_eq, get_put_ne, get_app] <;> first | assumption | rfl) | (simp only [canApp_push, canApp_put]; assumption) | (exact start_round _ _) | (simp only [st_round, dfr_round, pn_round]; first | assumption | exact start_round _ _) | fail) only [goS, plainEv, resultsEv, resultListEv, reduceIte, Nat.reduceEqDiff, Option.map_some, Option.map_none, Option.bind_some, List.map_cons, List.map_nil, List.getD_cons_zero, List.getD_cons_succ, List.getElem?_toArray, List.getElem?_cons_zero, List.getElem?_cons_succ, eq_self, beq_self_eq_true, goH, List.append_nil, List.nil_append, res58, row5_cells, row5_0, fa26_0, *] | (refine guard_dec (fun _ => ?_) (fun _ => ?_) <;> try (exfalso; omega)) | (refine guard_ndec (fun _ => ?_) (fun _ => ?_) <;> try (exfalso; omega)) | (refine branch_dec (fun _ => ?_) (fun _ => ?_) <;> try (exfalso; omega)) | (refine branch_ndec (fun _ => ?_) (fun _ => ?_) <;> try (exfalso; omega)) | refine run_draw (by kernel_rfl) ?_ | refine guard_nbool (fun _ => ?_) (fun _ => ?_) | refine branch_nbool (fun _ => ?_) (fun _ => ?_) | refine guard_bool (fun _ => ?_) (fun _ => ?_) | refine branch_bool (fun _ => ?_) (fun _ => ?_))
  all_goals
    refine answer2 ?_
    simp_all
end Go.Proofs.YtilmhlbjjfgeoaaDoor
end

section
namespace Go.Proofs.YtilmhlbjjfgeoaaDoor
open Go.AE Go.Lex Go.Pol
/-! ### must, parts -/
theorem res53 : Tryd.f53.results.toList = [] := by kernel_rfl
theorem res55 : Tryd.f55.results.toList = [.tmp 4] := by kernel_rfl
theorem build69 (e : Int) : buildEv Tryd.prog 69 [(0, .v (.int .i64 e))] = some (.agg [.v (.int .i64 e)]) := by kernel_rfl
theorem ii69 : isIface Tryd.prog 69 = some false := by kernel_rfl
theorem int_cells (n : Int) : (AV.v (.int .i64 n)).cellsO = some [.v (.int .i64 n)] := rfl
/-- What a fallen 'must' throws. -/
def stopV (e : Int) : AV := .iface 69 (.agg [.v (.int .i64 e)])
set_option maxHeartbeats 4000000 in
set_option maxRecDepth 100000 in
theorem must_ok (e : Int) (h : Heap) : W.call 53 [.v (.bool true), .v (.int .i64 e)] h = some (.ret (.tuple []), h) := by
  refine call_of_run rfl Tryd.func53 rfl ?_
  repeat' (first | simp (config := { maxSteps := 4000000 }) (disch := first | assumption | (exact Nat.le_refl _) | omega | (simp only [List.length_cons, List.length_nil, List.length_append, push_len, put_len, len_app] <;> omega) | (simp (disch := (first | assumption | omega | (exact (push_len _ _).symm) | (simp only [push_len, put_len, len_app]; omega) | (refine Nat.le_antisymm ?_ ?_ <;> simp only [push_len, put_len, len_app] <;> omega) | fail)) only [get_push_last, get_push_eq, get_push_ne, get_put_eq, get_put_ne, get_app] <;> first | assumption | rfl) | (simp only [canApp_push, canApp_put]; assumption) | (exact start_round _ _) | (simp only [st_round, dfr_round, pn_round]; first | assumption | exact start_round _ _) | fail) only [goS, plainEv, resultsEv, resultListEv, reduceIte, Nat.reduceEqDiff, Option.map_some, Option.map_none, Option.bind_some, List.map_cons, List.map_nil, List.getD_cons_zero, List.getD_cons_succ, List.getElem?_toArray, List.getElem?_cons_zero, List.getElem?_cons_succ, eq_self, beq_self_eq_true, goH, List.append_nil, List.nil_append, res53, *] | (refine guard_dec (fun _ => ?_) (fun _ => ?_) <;> try (exfalso; omega)) | (refine guard_ndec (fun _ => ?_) (fun _ => ?_) <;> try (exfalso; omega)) | (refine branch_dec (fun _ => ?_) (fun _ => ?_) <;> try (exfalso; omega)) | (refine branch_ndec (fun _ => ?_) (fun _ => ?_) <;> try (exfalso; omega)) | refine run_draw (by kernel_rfl) ?_ | refine guard_nbool (fun _ => ?_) (fun _ => ?_) | refine branch_nbool (fun _ => ?_) (fun _ => ?_) | refine guard_bool (fun _ => ?_) (fun _ => ?_) | refine branch_bool (fun _ => ?_) (fun _ => ?_))
set_option maxHeartbeats 4000000 in
set_option maxRecDepth 100000 in
theorem must_bad (e : Int) (h : Heap) : W.call 53 [.v (.bool false), .v (.int .i64 e)] h = some (.panic (stopV e), h) := by
  have i69 := ii69
  refine call_of_run rfl Tryd.func53 rfl ?_
  repeat' (first | simp (config := { maxSteps := 4000000 }) (disch := first | assumption | (exact Nat.le_refl _) | omega | (simp only [List.length_cons, List.length_nil, List.length_append, push_len, put_len, len_app] <;> omega) | (simp (disch := (first | assumption | omega | (exact (push_len _ _).symm) | (simp only [push_len, put_len, len_app]; omega) | (refine Nat.le_antisymm ?_ ?_ <;> simp only [push_len, put_len, len_app] <;> omega) | fail)) only [get_push_last, get_push_eq, get_push_ne, get_put_eq, get_put_ne, get_app] <;> first | assumption | rfl) | (simp only [canApp_push, canApp_put]; assumption) | (exact start_round _ _) | (simp only [st_round, dfr_round, pn_round]; first | assumption | exact start_round _ _) | fail) only [goS, plainEv, resultsEv, resultListEv, reduceIte, Nat.reduceEqDiff, Option.map_some, Option.map_none, Option.bind_some, List.map_cons, List.map_nil, List.getD_cons_zero, List.getD_cons_succ, List.getElem?_toArray, List.getElem?_cons_zero, List.getElem?_cons_succ, eq_self, beq_self_eq_true, goH, List.append_nil, List.nil_append, res53, build69, stopV, *] | (refine guard_dec (fun _ => ?_) (fun _ => ?_) <;> try (exfalso; omega)) | (refine guard_ndec (fun _ => ?_) (fun _ => ?_) <;> try (exfalso; omega)) | (refine branch_dec (fun _ => ?_) (fun _ => ?_) <;> try (exfalso; omega)) | (refine branch_ndec (fun _ => ?_) (fun _ => ?_) <;> try (exfalso; omega)) | refine run_draw (by kernel_rfl) ?_ | refine guard_nbool (fun _ => ?_) (fun _ => ?_) | refine branch_nbool (fun _ => ?_) (fun _ => ?_) | refine guard_bool (fun _ => ?_) (fun _ => ?_) | refine branch_bool (fun _ => ?_) (fun _ => ?_))
set_option maxHeartbeats 4000000 in
set_option maxRecDepth 100000 in
theorem partsF_ev (x : Ex) (row : List AV) (hr : Row x row) (d : Int) (h : Heap) : W.call 55 [.agg row, .v (.int .i64 d)] h = some (.ret (.func (.func 67) [] [.ptr (.box h.boxes.length) 0, .ptr (.box (h.boxes.length + 1)) 0]), (h.push row).push [.v (.int .i64 d)]) := by
  obtain ⟨tok, sz, rows, rfl, -, -, -⟩ := Row.five hr
  clear hr
  refine call_of_run rfl Tryd.func55 rfl ?_
  repeat' (first | simp (config := { maxSteps := 4000000 }) (disch := first | assumption | (exact Nat.le_refl _) | omega | (simp only [List.length_cons, List.length_nil, List.length_append, push_len, put_len, len_app] <;> omega) | (simp (disch := (first | assumption | omega | (exact (push_len _ _).symm) | (simp only [push_len, put_len, len_app]; omega) | (refine Nat.le_antisymm ?_ ?_ <;> simp only [push_len, put_len, len_app] <;> omega) | fail)) only [get_push_last, get_push_eq, get_push_ne, get_put_eq, get_put_ne, get_app] <;> first | assumption | rfl) | (simp only [canApp_push, canApp_put]; assumption) | (exact start_round _ _) | (simp only [st_round, dfr_round, pn_round]; first | assumption | exact start_round _ _) | fail) only [goS, plainEv, resultsEv, resultListEv, reduceIte, Nat.reduceEqDiff, Option.map_some, Option.map_none, Option.bind_some, List.map_cons, List.map_nil, List.getD_cons_zero, List.getD_cons_succ, List.getElem?_toArray, List.getElem?_cons_zero, List.getElem?_cons_succ, eq_self, beq_self_eq_true, goH, List.append_nil, List.nil_append, res55, row5_cells, int_cells, len_push, *] | (refine guard_dec (fun _ => ?_) (fun _ => ?_) <;> try (exfalso; omega)) | (refine guard_ndec (fun _ => ?_) (fun _ => ?_) <;> try (exfalso; omega)) | (refine branch_dec (fun _ => ?_) (fun _ => ?_) <;> try (exfalso; omega)) | (refine branch_ndec (fun _ => ?_) (fun _ => ?_) <;> try (exfalso; omega)) | refine run_draw (by kernel_rfl) ?_ | refine guard_nbool (fun _ => ?_) (fun _ => ?_) | refine branch_nbool (fun _ => ?_) (fun _ => ?_) | refine guard_bool (fun _ => ?_) (fun _ => ?_) | refine branch_bool (fun _ => ?_) (fun _ => ?_))
end Go.Proofs.YtilmhlbjjfgeoaaDoor
end

section
namespace Go.Proofs.YtilmhlbjjfgeoaaDoor
open Go.AE Go.Lex Go.Pol
mutual
def depthE : Ex → Nat
  | .mk _ _ _ _ l => depthL l + 1
def depthL : List Ex → Nat
  | [] => 0
  | x :: r => max (depthE x) (depthL r)
end
theorem depthL_mem : ∀ {l : List Ex} {x : Ex}, x ∈ l → depthE x ≤ depthL l := by
  intro l
  induction l with
  | nil => intro x h; cases h
  | cons y l ih =>
    intro x h
    rw [depthL]
    rcases List.mem_cons.1 h with rfl | h
    · omega
    · have := ih h; omega
theorem depthL_app (a : List Ex) (x : Ex) : depthL (a ++ [x]) = max (depthL a) (depthE x) := by
  induction a with
  | nil => simp [depthL]
  | cons y a ih => rw [List.cons_append, depthL, ih, depthL]; omega
theorem res69 : Tryd.f69.results.toList = [.tmp 2] := by kernel_rfl
set_option maxHeartbeats 4000000 in
set_option maxRecDepth 100000 in
theorem depth_ev : ∀ (x : Ex) (row : List AV), Row x row → depthE x ≤ 1000000 → ∀ h, Says W 69 [.agg row] h (.ret (.v (.int .i64 (depthE x)))) := by
  intro x
  induction x using Ex.ind with
  | h kk nn no name l ih =>
    intro row hrow hdp h
    obtain ⟨tok, sz, rows, rfl, hrows, hsz, hbd⟩ := Row.five hrow
    clear hrow
    have ux := Tryd.underlying24
    have a3 := ag3; have a24 := ag24; have a26 := ag26; have s26 := sz26
    have hlen := hrows.1
    simp only [Ex.kind, Ex.n, Ex.no, Ex.name, Ex.l] at hrows hsz hlen hbd ⊢
    rw [depthE] at hdp
    have kr := Keep.mk hrows
    have kz := Keep.mk hsz
    have kih := Keep.mk ih
    have kdp := Keep.mk hdp
    clear hrows hsz ih hdp
    rw [depthE]
    refine call_ex rfl Tryd.func69 rfl ?_
    repeat' (first | simp (config := { maxSteps := 4000000 }) (disch := first | assumption | (exact Nat.le_refl _) | omega | (simp only [List.length_cons, List.length_nil, List.length_append, push_len, put_len, len_app] <;> omega) | (simp (disch := (first | assumption | omega | (exact (push_len _ _).symm) | (simp only [push_len, put_len, len_app]; omega) | (refine Nat.le_antisymm ?_ ?_ <;> simp only [push_len, put_len, len_app] <;> omega) | fail)) only [get_push_last, get_push_eq, get_push_ne, get_put_eq, get_put_ne, get_app] <;> first | assumption | rfl) | (simp only [canApp_push, canApp_put]; assumption) | (exact start_round _ _) | (simp only [st_round, dfr_round, pn_round]; first | assumption | exact start_round _ _) | fail) only [goS, plainEv, resultsEv, resultListEv, reduceIte, Nat.reduceEqDiff, Option.map_some, Option.map_none, Option.bind_some, List.map_cons, List.map_nil, List.getD_cons_zero, List.getD_cons_succ, List.getElem?_toArray, List.getElem?_cons_zero, List.getElem?_cons_succ, eq_self, beq_self_eq_true, goH, List.append_nil, List.nil_append, res69, row5_cells, *] | (refine guard_dec (fun _ => ?_) (fun _ => ?_) <;> try (exfalso; omega)) | (refine guard_ndec (fun _ => ?_) (fun _ => ?_) <;> try (exfalso; omega)) | (refine branch_dec (fun _ => ?_) (fun _ => ?_) <;> try (exfalso; omega)) | (refine branch_ndec (fun _ => ?_) (fun _ => ?_) <;> try (exfalso; omega)) | refine run_draw (by kernel_rfl) ?_ | refine guard_nbool (fun _ => ?_) (fun _ => ?_) | refine branch_nbool (fun _ => ?_) (fun _ => ?_) | refine guard_bool (fun _ => ?_) (fun _ => ?_) | refine branch_bool (fun _ => ?_) (fun _ => ?_))
    refine run_loop (fun m e h' => ∃ (i : Nat), i ≤ l.length ∧ m = l.length - i ∧ e.get 1 = .ptr (.box h.boxes.length) 0 ∧ e.get 3 = .v (.int .i64 (depthL (l.take i))) ∧ e.get 4 = .v (.int .i64 i) ∧ e.defers = [] ∧ Ext h h' ∧
      h'.boxes[h.boxes.length]? = some (row5 kk nn no name tok sz rows)) ?_ l.length _ _ ?_
    · rintro m e h' ⟨i, hi, rfl, g1, g3, g4, hd, hx, hb⟩
      have kx := Keep.mk hx
      clear hx
      by_cases hlt : i < l.length
      · obtain ⟨y, r, hy, hr, hyr⟩ := kr.out.get hlt
        have h5 := kz.out i hlt
        subst h5
        have hlt3 : (i : Int) < (rows.length : Int) := by rw [hlen]; omega
        have ht5 := take5 hyr.len
        have hle5 : 5 ≤ (r.drop 0).length := by rw [List.drop_zero, hyr.len]; exact Nat.le_refl _
        have hdy := depthL_mem (List.mem_of_getElem? hy)
        obtain ⟨h2, hc, hx2⟩ := kih.out y (List.mem_of_getElem? hy) r hyr (by have := kdp.out; omega) h'
        have kx2 := Keep.mk hx2
        have kb := Keep.mk hb
        have kdy := Keep.mk hdy
        clear hx2 hdy
        repeat' (first | simp (config := { maxSteps := 4000000 }) (disch := first | assumption | (exact Nat.le_refl _) | omega | (simp only [List.length_cons, List.length_nil, List.length_append, push_len, put_len, len_app] <;> omega) | (simp (disch := (first | assumption | omega | (exact (push_len _ _).symm) | (simp only [push_len, put_len, len_app]; omega) | (refine Nat.le_antisymm ?_ ?_ <;> simp only [push_len, put_len, len_app] <;> omega) | fail)) only [get_push_last, get_push_eq, get_push_ne, get_put_eq, get_put_ne, get_app] <;> first | assumption | rfl) | (simp only [canApp_push, canApp_put]; assumption) | (exact start_round _ _) | (simp only [st_round, dfr_round, pn_round]; first | assumption | exact start_round _ _) | fail) only [goS, plainEv, resultsEv, resultListEv, reduceIte, Nat.reduceEqDiff, Option.map_some, Option.map_none, Option.bind_some, List.map_cons, List.map_nil, List.getD_cons_zero, List.getD_cons_succ, List.getElem?_toArray, List.getElem?_cons_zero, List.getElem?_cons_succ, eq_self, beq_self_eq_true, goH, List.append_nil, List.nil_append, res69, row5_4, fa26_4, index_list, load_row_agg, max_int, *] | (refine guard_dec (fun _ => ?_) (fun _ => ?_) <;> try (exfalso; omega)) | (refine guard_ndec (fun _ => ?_) (fun _ => ?_) <;> try (exfalso; omega)) | (refine branch_dec (fun _ => ?_) (fun _ => ?_) <;> try (exfalso; omega)) | (refine branch_ndec (fun _ => ?_) (fun _ => ?_) <;> try (exfalso; omega)) | refine run_draw (by kernel_rfl) ?_ | refine guard_nbool (fun _ => ?_) (fun _ => ?_) | refine branch_nbool (fun _ => ?_) (fun _ => ?_) | refine guard_bool (fun _ => ?_) (fun _ => ?_) | refine branch_bool (fun _ => ?_) (fun _ => ?_))
        refine ⟨l.length - (i + 1), by omega, i + 1, by omega, rfl, (by first | trivial | (simp; done) | (simp; omega)), ?_, (by first | trivial | (simp; done) | (simp; omega)), (by first | trivial | (simp; done) | (simp; omega)), kx.out.trans kx2.out, kx2.out.box _ _ kb.out⟩
        obtain ⟨hj, rfl⟩ := List.getElem?_eq_some_iff.1 hy
        rw [List.take_succ_eq_append_getElem hj, depthL_app]
        congr 2
        split <;> omega
      · have hie : i = l.length := by omega
        subst hie
        have hlt3 : ¬ ((l.length : Int) < (rows.length : Int)) := by rw [hlen]; omega
        rw [List.take_length] at g3
        have hb2 := kdp.out
        repeat' (first | simp (config := { maxSteps := 4000000 }) (disch := first | assumption | (exact Nat.le_refl _) | omega | (simp only [List.length_cons, List.length_nil, List.length_append, push_len, put_len, len_app] <;> omega) | (simp (disch := (first | assumption | omega | (exact (push_len _ _).symm) | (simp only [push_len, put_len, len_app]; omega) | (refine Nat.le_antisymm ?_ ?_ <;> simp only [push_len, put_len, len_app] <;> omega) | fail)) only [get_push_last, get_push_eq, get_push_ne, get_put_eq, get_put_ne, get_app] <;> first | assumption | rfl) | (simp only [canApp_push, canApp_put]; assumption) | (exact start_round _ _) | (simp only [st_round, dfr_round, pn_round]; first | assumption | exact start_round _ _) | fail) only [goS, plainEv, resultsEv, resultListEv, reduceIte, Nat.reduceEqDiff, Option.map_some, Option.map_none, Option.bind_some, List.map_cons, List.map_nil, List.getD_cons_zero, List.getD_cons_succ, List.getElem?_toArray, List.getElem?_cons_zero, List.getElem?_cons_succ, eq_self, beq_self_eq_true, goH, List.append_nil, List.nil_append, res69, row5_4, fa26_4, *] | (refine guard_dec (fun _ => ?_) (fun _ => ?_) <;> try (exfalso; omega)) | (refine guard_ndec (fun _ => ?_) (fun _ => ?_) <;> try (exfalso; omega)) | (refine branch_dec (fun _ => ?_) (fun _ => ?_) <;> try (exfalso; omega)) | (refine branch_ndec (fun _ => ?_) (fun _ => ?_) <;> try (exfalso; omega)) | refine run_draw (by kernel_rfl) ?_ | refine guard_nbool (fun _ => ?_) (fun _ => ?_) | refine branch_nbool (fun _ => ?_) (fun _ => ?_) | refine guard_bool (fun _ => ?_) (fun _ => ?_) | refine branch_bool (fun _ => ?_) (fun _ => ?_))
        exact answerI (by omega) kx.out
    · refine ⟨0, Nat.zero_le _, rfl, ?_, ?_, ?_, ?_, .push _ _, push_last _ _⟩ <;> simp only [goS, plainEv, resultsEv, resultListEv, reduceIte, Nat.reduceEqDiff, Option.map_some, Option.map_none, Option.bind_some, List.map_cons, List.map_nil, List.getD_cons_zero, List.getD_cons_succ, List.getElem?_toArray, List.getElem?_cons_zero, List.getElem?_cons_succ, eq_self, beq_self_eq_true, goH] <;> rfl
end Go.Proofs.YtilmhlbjjfgeoaaDoor
end
