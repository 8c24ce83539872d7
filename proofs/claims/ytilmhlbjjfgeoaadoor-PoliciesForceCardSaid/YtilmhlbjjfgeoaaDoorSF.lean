/-
  Part of the proof: SF.
-/
import Derived.Test.YtilmhlbjjfgeoaaDoorSE
import Derived.Test.YtilmhlbjjfgeoaaDoorSD
set_option linter.unusedSimpArgs false
set_option linter.unusedVariables false
set_option linter.constructorNameAsVariable false
section
namespace Go.Proofs.YtilmhlbjjfgeoaaDoor
open Go.AE Go.Lex Go.Pol
/-! ### isFree, distinct, expressions -/
theorem res56 : Tryd.f56.results.toList = [.tmp 2] := by kernel_rfl
theorem res57 : Tryd.f57.results.toList = [.tmp 4] := by kernel_rfl
theorem res54 : Tryd.f54.results.toList = [.tmp 2] := by kernel_rfl
set_option maxHeartbeats 4000000 in
set_option maxRecDepth 100000 in
theorem isFree_ev (s : List UInt8) (h : Heap) : W.call 56 [.v (.string (bs s))] h = some (.ret (.v (.bool (freeB s))), h) := by
  have hw := wordB_eq s
  have hn := fun h => name_ev s h
  refine call_of_run rfl Tryd.func56 rfl ?_
  repeat' (first | simp (config := { maxSteps := 4000000 }) (disch := first | assumption | (exact Nat.le_refl _) | omega | (simp only [List.length_cons, List.length_nil, List.length_append, push_len, put_len, len_app] <;> omega) | (simp (disch := (first | assumption | omega | (exact (push_len _ _).symm) | (simp only [push_len, put_len, len_app]; omega) | (refine Nat.le_antisymm ?_ ?_ <;> simp only [push_len, put_len, len_app] <;> omega) | fail)) only [get_push_last, get_push_eq, get_push_ne, get_put_eq, get_put_ne, get_app] <;> first | assumption | rfl) | (simp only [canApp_push, canApp_put]; assumption) | (exact start_round _ _) | (simp only [st_round, dfr_round, pn_round]; first | assumption | exact start_round _ _) | fail) only [goS, plainEv, resultsEv, resultListEv, reduceIte, Nat.reduceEqDiff, Option.map_some, Option.map_none, Option.bind_some, List.map_cons, List.map_nil, List.getD_cons_zero, List.getD_cons_succ, List.getElem?_toArray, List.getElem?_cons_zero, List.getElem?_cons_succ, eq_self, beq_self_eq_true, goH, List.append_nil, List.nil_append, res56, *] | (refine guard_dec (fun _ => ?_) (fun _ => ?_) <;> try (exfalso; omega)) | (refine guard_ndec (fun _ => ?_) (fun _ => ?_) <;> try (exfalso; omega)) | (refine branch_dec (fun _ => ?_) (fun _ => ?_) <;> try (exfalso; omega)) | (refine branch_ndec (fun _ => ?_) (fun _ => ?_) <;> try (exfalso; omega)) | refine run_draw (by kernel_rfl) ?_ | refine guard_nbool (fun _ => ?_) (fun _ => ?_) | refine branch_nbool (fun _ => ?_) (fun _ => ?_) | refine guard_bool (fun _ => ?_) (fun _ => ?_) | refine branch_bool (fun _ => ?_) (fun _ => ?_))
  all_goals
    refine answer2 ?_
    first
      | (rename_i q; subst q; rfl)
      | (have : wordB s = false := by (rw [hw]; simp_all)
         simp [freeB, this])
set_option maxHeartbeats 4000000 in
set_option maxRecDepth 100000 in
theorem distinct_ev (k : Tok) (sz : Nat) (l : List (List UInt8)) (hz : ∀ i : Nat, i < l.length → sz = 1) (hl : l.length ≤ 9223372036854775807) (h : Heap) : W.call 57 [.list k sz (strs l), .func (.func 56) [] []] h = some (.ret (.v (.bool (distinctB l))), h) := by
  have u9 := Tryd.underlying9; have u22 := Tryd.underlying22; have a9 := ag9; have s9 := sz9
  have kz := Keep.mk hz
  have hix : ∀ s h, W.call 60 [.list k sz (strs l), .v (.string (bs s))] h = some (.ret (.v (.int .i64 (idx l s))), h) := fun s h => index_ev k sz l s hz hl h
  clear hz
  refine call_of_run rfl Tryd.func57 rfl ?_
  repeat' (first | (simp (config := { maxSteps := 4000000 }) (disch := first | assumption | omega | (simp only [List.length_cons, List.length_nil, List.length_append] <;> omega)) only [goS, plainEv, resultsEv, resultListEv, reduceIte, Nat.reduceEqDiff, Option.map_some, Option.map_none, Option.bind_some, List.map_cons, List.map_nil, List.getD_cons_zero, List.getD_cons_succ, List.getElem?_toArray, List.getElem?_cons_zero, List.getElem?_cons_succ, eq_self, beq_self_eq_true, res57, strs_len, *]; done) | simp (config := { maxSteps := 4000000 }) (disch := first | assumption | omega | (simp only [List.length_cons, List.length_nil, List.length_append]; omega)) only [goS, plainEv, resultsEv, resultListEv, reduceIte, Nat.reduceEqDiff, Option.map_some, Option.map_none, Option.bind_some, List.map_cons, List.map_nil, List.getD_cons_zero, List.getD_cons_succ, List.getElem?_toArray, List.getElem?_cons_zero, List.getElem?_cons_succ, eq_self, beq_self_eq_true, res57, strs_len, *] | (refine guard_dec (fun _ => ?_) (fun _ => ?_) <;> try (exfalso; omega)) | (refine guard_ndec (fun _ => ?_) (fun _ => ?_) <;> try (exfalso; omega)) | (refine branch_dec (fun _ => ?_) (fun _ => ?_) <;> try (exfalso; omega)) | (refine branch_ndec (fun _ => ?_) (fun _ => ?_) <;> try (exfalso; omega)) | refine run_draw (by kernel_rfl) ?_ | refine guard_nbool (fun _ => ?_) (fun _ => ?_) | refine branch_nbool (fun _ => ?_) (fun _ => ?_) | refine guard_bool (fun _ => ?_) (fun _ => ?_) | refine branch_bool (fun _ => ?_) (fun _ => ?_))
  refine run_loop (fun m e h' => ∃ i : Nat, i ≤ l.length ∧ m = l.length - i ∧ e.get 0 = .list k sz (strs l) ∧ e.get 1 = .func (.func 56) [] [] ∧ e.get 7 = .list k sz (strs l) ∧ e.get 8 = .v (.int .i64 (l.length : Nat)) ∧ e.get 9 = .v (.int .i64 i) ∧ e.defers = [] ∧ h' = h ∧ ∀ j, j < i → (freeB (l.getD j []) && decide (idx l (l.getD j []) = j)) = true) ?_ l.length _ _ ?_
  · rintro m e h' ⟨i, hi, rfl, g0, g1, g7, g8, g9, hd, rfl, hno⟩
    have kno := Keep.mk hno
    clear hno
    by_cases hlt : i < l.length
    · obtain ⟨x, hx⟩ : ∃ t, l[i]? = some t := ⟨_, List.getElem?_eq_getElem hlt⟩
      obtain rfl := kz.out i hlt
      have hgd : l.getD i [] = x := by rw [List.getD_eq_getElem?_getD, hx]; rfl
      have hlt3 : (i : Int) < ((strs l).length : Int) := by rw [strs_len]; omega
      have hlt4 : (i : Int) < (l.length : Int) := by omega
      have hfr := isFree_ev x
      by_cases hgood : (freeB x && decide (idx l x = i)) = true
      · have q1 : freeB x = true := by simp at hgood; exact hgood.1
        have q2 : decide (idx l x = (i : Int)) = true := by simp at hgood; simp [hgood.2]
        rw [q1] at hfr
        have kgood := Keep.mk hgood
        clear hgood q1
        repeat' (first | simp (config := { maxSteps := 4000000 }) (disch := first | assumption | (exact Nat.le_refl _) | omega | (simp only [List.length_cons, List.length_nil, List.length_append, push_len, put_len, len_app] <;> omega) | (simp (disch := (first | assumption | omega | (exact (push_len _ _).symm) | (simp only [push_len, put_len, len_app]; omega) | (refine Nat.le_antisymm ?_ ?_ <;> simp only [push_len, put_len, len_app] <;> omega) | fail)) only [get_push_last, get_push_eq, get_push_ne, get_put_eq, get_put_ne, get_app] <;> first | assumption | rfl) | (simp only [canApp_push, canApp_put]; assumption) | (exact start_round _ _) | (simp only [st_round, dfr_round, pn_round]; first | assumption | exact start_round _ _) | fail) only [goS, plainEv, resultsEv, resultListEv, reduceIte, Nat.reduceEqDiff, Option.map_some, Option.map_none, Option.bind_some, List.map_cons, List.map_nil, List.getD_cons_zero, List.getD_cons_succ, List.getElem?_toArray, List.getElem?_cons_zero, List.getElem?_cons_succ, eq_self, beq_self_eq_true, goH, List.append_nil, List.nil_append, res57, strs_len, strs_get, index_list, load_row, cell_one, *] | (refine guard_dec (fun _ => ?_) (fun _ => ?_) <;> try (exfalso; omega)) | (refine guard_ndec (fun _ => ?_) (fun _ => ?_) <;> try (exfalso; omega)) | (refine branch_dec (fun _ => ?_) (fun _ => ?_) <;> try (exfalso; omega)) | (refine branch_ndec (fun _ => ?_) (fun _ => ?_) <;> try (exfalso; omega)) | refine run_draw (by kernel_rfl) ?_ | refine guard_nbool (fun _ => ?_) (fun _ => ?_) | refine branch_nbool (fun _ => ?_) (fun _ => ?_) | refine guard_bool (fun _ => ?_) (fun _ => ?_) | refine branch_bool (fun _ => ?_) (fun _ => ?_))
        refine ⟨l.length - (i + 1), by omega, i + 1, by omega, rfl, (by first | trivial | (simp; done) | (simp; omega)), (by first | trivial | (simp; done) | (simp; omega)), (by first | trivial | (simp; done) | (simp; omega)), (by first | trivial | (simp; done) | (simp; omega)), (by first | trivial | (simp; done) | (simp; omega)), (by first | trivial | (simp; done) | (simp; omega)), (by first | trivial | (simp; done) | (simp; omega)), fun j hj => ?_⟩
        rcases Nat.lt_or_ge j i with w | w
        · exact kno.out j w
        · have : j = i := by omega
          subst this
          rw [hgd]; exact kgood.out
      · have hbad := distinct_no hlt (by rw [hgd]; simpa using hgood)
        have kbad := Keep.mk hbad
        have kgood := Keep.mk hgood
        clear hbad hgood
        repeat' (first | simp (config := { maxSteps := 4000000 }) (disch := first | assumption | (exact Nat.le_refl _) | omega | (simp only [List.length_cons, List.length_nil, List.length_append, push_len, put_len, len_app] <;> omega) | (simp (disch := (first | assumption | omega | (exact (push_len _ _).symm) | (simp only [push_len, put_len, len_app]; omega) | (refine Nat.le_antisymm ?_ ?_ <;> simp only [push_len, put_len, len_app] <;> omega) | fail)) only [get_push_last, get_push_eq, get_push_ne, get_put_eq, get_put_ne, get_app] <;> first | assumption | rfl) | (simp only [canApp_push, canApp_put]; assumption) | (exact start_round _ _) | (simp only [st_round, dfr_round, pn_round]; first | assumption | exact start_round _ _) | fail) only [goS, plainEv, resultsEv, resultListEv, reduceIte, Nat.reduceEqDiff, Option.map_some, Option.map_none, Option.bind_some, List.map_cons, List.map_nil, List.getD_cons_zero, List.getD_cons_succ, List.getElem?_toArray, List.getElem?_cons_zero, List.getElem?_cons_succ, eq_self, beq_self_eq_true, goH, List.append_nil, List.nil_append, res57, strs_len, strs_get, index_list, load_row, cell_one, *] | (refine guard_dec (fun _ => ?_) (fun _ => ?_) <;> try (exfalso; omega)) | (refine guard_ndec (fun _ => ?_) (fun _ => ?_) <;> try (exfalso; omega)) | (refine branch_dec (fun _ => ?_) (fun _ => ?_) <;> try (exfalso; omega)) | (refine branch_ndec (fun _ => ?_) (fun _ => ?_) <;> try (exfalso; omega)) | refine run_draw (by kernel_rfl) ?_ | refine guard_nbool (fun _ => ?_) (fun _ => ?_) | refine branch_nbool (fun _ => ?_) (fun _ => ?_) | refine guard_bool (fun _ => ?_) (fun _ => ?_) | refine branch_bool (fun _ => ?_) (fun _ => ?_))
        all_goals first
          | exact answer2 kbad.out.symm
          | (exfalso; exact kgood.out (by simp_all))
    · have hie : i = l.length := by omega
      subst hie
      repeat' (first | (simp (config := { maxSteps := 4000000 }) (disch := first | assumption | omega | (simp only [List.length_cons, List.length_nil, List.length_append] <;> omega)) only [goS, plainEv, resultsEv, resultListEv, reduceIte, Nat.reduceEqDiff, Option.map_some, Option.map_none, Option.bind_some, List.map_cons, List.map_nil, List.getD_cons_zero, List.getD_cons_succ, List.getElem?_toArray, List.getElem?_cons_zero, List.getElem?_cons_succ, eq_self, beq_self_eq_true, res57, strs_len, *]; done) | simp (config := { maxSteps := 4000000 }) (disch := first | assumption | omega | (simp only [List.length_cons, List.length_nil, List.length_append]; omega)) only [goS, plainEv, resultsEv, resultListEv, reduceIte, Nat.reduceEqDiff, Option.map_some, Option.map_none, Option.bind_some, List.map_cons, List.map_nil, List.getD_cons_zero, List.getD_cons_succ, List.getElem?_toArray, List.getElem?_cons_zero, List.getElem?_cons_succ, eq_self, beq_self_eq_true, res57, strs_len, *] | (refine guard_dec (fun _ => ?_) (fun _ => ?_) <;> try (exfalso; omega)) | (refine guard_ndec (fun _ => ?_) (fun _ => ?_) <;> try (exfalso; omega)) | (refine branch_dec (fun _ => ?_) (fun _ => ?_) <;> try (exfalso; omega)) | (refine branch_ndec (fun _ => ?_) (fun _ => ?_) <;> try (exfalso; omega)) | refine run_draw (by kernel_rfl) ?_ | refine guard_nbool (fun _ => ?_) (fun _ => ?_) | refine branch_nbool (fun _ => ?_) (fun _ => ?_) | refine guard_bool (fun _ => ?_) (fun _ => ?_) | refine branch_bool (fun _ => ?_) (fun _ => ?_))
      refine answer2 ?_
      symm
      exact List.all_eq_true.2 fun j hj => kno.out j (by simpa using hj)
  · refine ⟨0, Nat.zero_le _, rfl, ?_, ?_, ?_, ?_, ?_, ?_, rfl, fun j hj => absurd hj (Nat.not_lt_zero j)⟩ <;> simp only [goS, plainEv, resultsEv, resultListEv, reduceIte, Nat.reduceEqDiff, Option.map_some, Option.map_none, Option.bind_some, List.map_cons, List.map_nil, List.getD_cons_zero, List.getD_cons_succ, List.getElem?_toArray, List.getElem?_cons_zero, List.getElem?_cons_succ, eq_self, beq_self_eq_true, strs_len] <;> rfl
end Go.Proofs.YtilmhlbjjfgeoaaDoor
end

section
namespace Go.Proofs.YtilmhlbjjfgeoaaDoor
open Go.AE Go.Lex Go.Pol
/-! ### expressions -/
def exprs (p : Po) : List Ex := p.rules.map (·.expr) ++ [p.change]
def GivesL (R : Rec) (g : FuncId) (args : List AV) (h : Heap) (l : List Ex) : Prop := ∃ tok rows h', R.call g args h = some (.ret (.list tok 5 rows), h') ∧ Ext h h' ∧ Pol.Rows l rows
set_option maxHeartbeats 16000000 in
set_option maxRecDepth 100000 in
theorem expressions_ev (p : Po) (t : PT) (ok : POk p t) (hfew : p.rules.length ≤ 1000) (h : Heap) (hok : okHeap h = true) : GivesL W 54 [.agg (prow p t)] h (exprs p) := by
  have u23 := Tryd.underlying23
  have a3 := ag3; have a9 := ag9; have a22 := ag22; have a23 := ag23; have a24 := ag24; have a26 := ag26; have a28 := ag28; have a43 := ag43; have s26 := sz26; have s28 := sz28; have s43 := sz43; have s3 := sz3; have z43 := zc43'
  have hlen := ok.rules.1
  have kok := Keep.mk ok
  have kokh := Keep.mk hok
  suffices hs : ∃ r h', W.call 54 [.agg (prow p t)] h = some (r, h') ∧ (∃ tok rows, r = .ret (.list tok 5 rows) ∧ Ext h h' ∧ Pol.Rows (exprs p) rows) by
    obtain ⟨r, h', q1, tok, rows, rfl, q3, q4⟩ := hs
    exact ⟨tok, rows, h', q1, q3, q4⟩
  clear hok
  refine call_post rfl Tryd.func54 rfl ?_
  repeat' (first | simp (config := { maxSteps := 4000000 }) (disch := first | assumption | (exact Nat.le_refl _) | omega | (simp only [List.length_cons, List.length_nil, List.length_append, push_len, put_len, len_app] <;> omega) | (simp (disch := (first | assumption | omega | (exact (push_len _ _).symm) | (simp only [push_len, put_len, len_app]; omega) | (refine Nat.le_antisymm ?_ ?_ <;> simp only [push_len, put_len, len_app] <;> omega) | fail)) only [get_push_last, get_push_eq, get_push_ne, get_put_eq, get_put_ne, get_app] <;> first | assumption | rfl) | (simp only [canApp_push, canApp_put]; assumption) | (exact start_round _ _) | (simp only [st_round, dfr_round, pn_round]; first | assumption | exact start_round _ _) | fail) only [goS, plainEv, resultsEv, resultListEv, reduceIte, Nat.reduceEqDiff, Option.map_some, Option.map_none, Option.bind_some, List.map_cons, List.map_nil, List.getD_cons_zero, List.getD_cons_succ, List.getElem?_toArray, List.getElem?_cons_zero, List.getElem?_cons_succ, eq_self, beq_self_eq_true, goH, List.append_nil, List.nil_append, res54, fp28, fp43, prs, rrs, load28, push_len, strs_len, *] | (refine guard_dec (fun _ => ?_) (fun _ => ?_) <;> try (exfalso; omega)) | (refine guard_ndec (fun _ => ?_) (fun _ => ?_) <;> try (exfalso; omega)) | (refine branch_dec (fun _ => ?_) (fun _ => ?_) <;> try (exfalso; omega)) | (refine branch_ndec (fun _ => ?_) (fun _ => ?_) <;> try (exfalso; omega)) | refine guard_nbool (fun _ => ?_) (fun _ => ?_) | refine branch_nbool (fun _ => ?_) (fun _ => ?_) | refine guard_bool (fun _ => ?_) (fun _ => ?_) | refine branch_bool (fun _ => ?_) (fun _ => ?_))
  refine run_loop (fun m e h' => ∃ (i : Nat) (tokR : Tok) (szR : Nat) (rowsR : List (List AV)), i ≤ p.rules.length ∧ m = p.rules.length - i ∧ e.get 1 = .ptr (.box h.boxes.length) 0 ∧ e.get 2 = .list tokR szR rowsR ∧ e.get 6 = .list t.tr t.sr t.rr ∧ e.get 7 = .v (.int .i64 (p.rules.length : Nat)) ∧ e.get 8 = .v (.int .i64 i) ∧ e.defers = [] ∧
    h'.boxes[h.boxes.length]? = some (prow p t) ∧ Pol.Rows ((p.rules.take i).map (·.expr)) rowsR ∧ CanApp h.tn h' tokR ∧ (szR = 5 ∨ (rowsR = [] ∧ tokR = .nil)) ∧ Ext h h' ∧ okHeap h' = true) ?_ p.rules.length _ _ ?_
  · rintro m e h' ⟨i, tokR, szR, rowsR, hi, rfl, g1, g2, g6, g7, g8, hd, hb1, hrr, hca, hsr, hx, hok'⟩
    have hrl := hrr.1
    have khrr := Keep.mk hrr
    have kx := Keep.mk hx
    have kca := Keep.mk hca
    have ksr := Keep.mk hsr
    have kok' := Keep.mk hok'
    clear hrr hx hca hsr hok'
    have n1 := (List.getElem?_eq_some_iff.1 hb1).1
    have hrl2 : rowsR.length ≤ 70000 := by rw [hrl]; simp; omega
    by_cases hlt : i < p.rules.length
    · obtain ⟨y, tk2, sz2, rows2, hy, hr, hyr⟩ := RRows.get kok.out.rules hlt
      have h8 := kok.out.zr i hlt
      have hlt3 : (i : Int) < (t.rr.length : Int) := by rw [hlen]; omega
      have hlt4 : (i : Int) < (p.rules.length : Int) := by omega
      have rf8 := @rrow_fit8 y tk2 sz2 rows2
      have kca5 := Keep.mk (kca.out.ext (Ext.push h' (rrow y tk2 sz2 rows2)))
      have happ := app_ex (h := h'.push (rrow y tk2 sz2 rows2)) (r := row5 y.expr.kind y.expr.n y.expr.no y.expr.name tk2 sz2 rows2) (kca5.out.mono (Nat.zero_le _)) ksr.out hrl2
      have khyr := Keep.mk hyr
      clear hyr
      repeat' (first | simp (config := { maxSteps := 4000000 }) (disch := first | assumption | (exact Nat.le_refl _) | omega | (simp only [List.length_cons, List.length_nil, List.length_append, push_len, put_len, len_app] <;> omega) | (simp (disch := (first | assumption | omega | (exact (push_len _ _).symm) | (simp only [push_len, put_len, len_app]; omega) | (refine Nat.le_antisymm ?_ ?_ <;> simp only [push_len, put_len, len_app] <;> omega) | fail)) only [get_push_last, get_push_eq, get_push_ne, get_put_eq, get_put_ne, get_app] <;> first | assumption | rfl) | (simp only [canApp_push, canApp_put]; assumption) | (exact start_round _ _) | (simp only [st_round, dfr_round, pn_round]; first | assumption | exact start_round _ _) | fail) only [goS, plainEv, resultsEv, resultListEv, reduceIte, Nat.reduceEqDiff, Option.map_some, Option.map_none, Option.bind_some, List.map_cons, List.map_nil, List.getD_cons_zero, List.getD_cons_succ, List.getElem?_toArray, List.getElem?_cons_zero, List.getElem?_cons_succ, eq_self, beq_self_eq_true, goH, List.append_nil, List.nil_append, res54, fp28, fp43, prs, rrs, load43, load43_3, store43, index_list, load_row_agg, build24, push_len, put_push_eq, put_push_ne, r5, *] | (refine guard_dec (fun _ => ?_) (fun _ => ?_) <;> try (exfalso; omega)) | (refine guard_ndec (fun _ => ?_) (fun _ => ?_) <;> try (exfalso; omega)) | (refine branch_dec (fun _ => ?_) (fun _ => ?_) <;> try (exfalso; omega)) | (refine branch_ndec (fun _ => ?_) (fun _ => ?_) <;> try (exfalso; omega)) | refine guard_nbool (fun _ => ?_) (fun _ => ?_) | refine branch_nbool (fun _ => ?_) (fun _ => ?_) | refine guard_bool (fun _ => ?_) (fun _ => ?_) | refine branch_bool (fun _ => ?_) (fun _ => ?_))
      refine ⟨p.rules.length - (i + 1), by omega, i + 1, .free h'.tn, 5, rowsR ++ [row5 y.expr.kind y.expr.n y.expr.no y.expr.name tk2 sz2 rows2], by omega, rfl, (by first | trivial | (simp; done) | (simp; omega)), (by first | trivial | (simp; done) | (simp; omega)), (by first | trivial | (simp; done) | (simp; omega)), (by first | trivial | (simp; done) | (simp; omega)), (by first | trivial | (simp; done) | (simp; omega)), (by first | trivial | (simp; done) | (simp; omega)), ?_, ?_, ?_, .inl rfl, ?_, ?_⟩
      · rw [app_boxes]; exact push_old hb1
      · obtain ⟨hj, rfl⟩ := List.getElem?_eq_some_iff.1 hy
        rw [List.take_succ_eq_append_getElem hj, List.map_append]
        exact Pol.Rows.snoc khrr.out khyr.out
      · exact kca5.out.next kok'.out kx.out.tn
      · exact (kx.out.trans (.push _ _)).app kca5.out
      · exact (Mut.app (b := 0) kca5.out).ok kok'.out
    · have hie : i = p.rules.length := by omega
      subst hie
      have hlt3 : ¬ ((p.rules.length : Int) < (p.rules.length : Int)) := by omega
      rw [List.take_length] at khrr
      have happ := app_ex (h := h') (r := row5 p.change.kind p.change.n p.change.no p.change.name t.tok t.sz t.rows) (kca.out.mono (Nat.zero_le _)) ksr.out hrl2
      repeat' (first | simp (config := { maxSteps := 4000000 }) (disch := first | assumption | (exact Nat.le_refl _) | omega | (simp only [List.length_cons, List.length_nil, List.length_append, push_len, put_len, len_app] <;> omega) | (simp (disch := (first | assumption | omega | (exact (push_len _ _).symm) | (simp only [push_len, put_len, len_app]; omega) | (refine Nat.le_antisymm ?_ ?_ <;> simp only [push_len, put_len, len_app] <;> omega) | fail)) only [get_push_last, get_push_eq, get_push_ne, get_put_eq, get_put_ne, get_app] <;> first | assumption | rfl) | (simp only [canApp_push, canApp_put]; assumption) | (exact start_round _ _) | (simp only [st_round, dfr_round, pn_round]; first | assumption | exact start_round _ _) | fail) only [goS, plainEv, resultsEv, resultListEv, reduceIte, Nat.reduceEqDiff, Option.map_some, Option.map_none, Option.bind_some, List.map_cons, List.map_nil, List.getD_cons_zero, List.getD_cons_succ, List.getElem?_toArray, List.getElem?_cons_zero, List.getElem?_cons_succ, eq_self, beq_self_eq_true, goH, List.append_nil, List.nil_append, res54, fp28, fp43, prs, rrs, load28_4, build24, p5, *] | (refine guard_dec (fun _ => ?_) (fun _ => ?_) <;> try (exfalso; omega)) | (refine guard_ndec (fun _ => ?_) (fun _ => ?_) <;> try (exfalso; omega)) | (refine branch_dec (fun _ => ?_) (fun _ => ?_) <;> try (exfalso; omega)) | (refine branch_ndec (fun _ => ?_) (fun _ => ?_) <;> try (exfalso; omega)) | refine guard_nbool (fun _ => ?_) (fun _ => ?_) | refine branch_nbool (fun _ => ?_) (fun _ => ?_) | refine guard_bool (fun _ => ?_) (fun _ => ?_) | refine branch_bool (fun _ => ?_) (fun _ => ?_))
      exact ⟨_, _, rfl, _, _, rfl, kx.out.app kca.out, Pol.Rows.snoc khrr.out kok.out.expr⟩
  · refine ⟨0, .nil, 0, [], Nat.zero_le _, rfl, ?_, ?_, ?_, ?_, ?_, ?_, push_last _ _, Pol.Rows.nil, .inl rfl, .inr ⟨rfl, rfl⟩, .push _ _, kokh.out⟩ <;> simp only [goS, plainEv, resultsEv, resultListEv, reduceIte, Nat.reduceEqDiff, Option.map_some, Option.map_none, Option.bind_some, List.map_cons, List.map_nil, List.getD_cons_zero, List.getD_cons_succ, List.getElem?_toArray, List.getElem?_cons_zero, List.getElem?_cons_succ, eq_self, beq_self_eq_true, goH, hlen] <;> rfl
end Go.Proofs.YtilmhlbjjfgeoaaDoor
end

section
namespace Go.Proofs.YtilmhlbjjfgeoaaDoor
open Go.AE Go.Lex Go.Pol
/-! ### A range over the parts of an expression -/
/-- How a round's body must end. -/
def BodyEnd {α : Type} (bn l0 n0 : Nat) (J : α → Heap → Prop) (h0 : Heap) (o : Xt) (h2 : Heap) (q : Nx α) : Prop :=
  Fr bn l0 n0 h0 h2 ∧ (∀ (m : Nat) (r : LoopRec), h0.loops[m]? = some r → h2.loops[m]? = some r) ∧ match q with
    | .cont c => o = .normal ∧ J c h2
    | .stop c => o = .ret ∧ J c h2
    | .panic v => o = .panic v
theorem range_feed {α : Type} (J : α → Heap → Prop) (next : α → Ex → Int → Nx α) {x : Ex} {tok : Tok} {sz : Nat} {rows : List (List AV)} (hrow : Row x (row5 x.kind x.n x.no x.name tok sz rows)) {bn n0 bx bd ft pt : Nat} {d : Int} (a : α) {e : Env} {h : Heap} {Q : Xt → Env → Heap → Prop} {assign body : Code}
    (hf : e.get ft = .func (.func 67) [] [.ptr (.box bx) 0, .ptr (.box bd) 0]) (hbx : h.boxes[bx]? = some (row5 x.kind x.n x.no x.name tok sz rows)) (hbd : h.boxes[bd]? = some [.v (.int .i64 d)]) (hxn : bx ≠ bn) (hdn : bd ≠ bn) (hd0 : 0 ≤ d) (hd1 : d + depthE x ≤ 4611686018427387904) (hn0 : n0 ≤ h.tn)
    (hJ : J a h) (Jst : ∀ a h h', J a h → (∀ (b : Nat) (cs : List AV), h.boxes[b]? = some cs → h'.boxes[b]? = some cs) → J a h') (Jbn : ∀ a h, J a h → bn < h.boxes.length)
    (hround : ∀ (c : α) (hh : Heap) (z : Ex) (tk2 : Tok) (sz2 : Nat) (rows2 : List (List AV)) (dd : Int) (rec : LoopRec), rec.tmps = e.tmps → rec.params = #[pt] → J c hh → Row z (row5 z.kind z.n z.no z.name tk2 sz2 rows2) → 0 ≤ dd → dd ≤ 4611686018427387904 → n0 ≤ hh.tn →
      Run W assign (roundEnv h.loops.length rec [.agg (row6 z.kind z.n z.no z.name tk2 sz2 rows2 dd)]) hh (fun o e1 h1 => o = .normal ∧ h1.loops = hh.loops ∧ Fr bn h.loops.length n0 hh h1 ∧ ∀ rb, Run W body e1 (h1.setLoop h.loops.length rb) (fun o2 _ h2 => BodyEnd bn h.loops.length n0 J (h1.setLoop h.loops.length rb) o2 h2 (next c z dd))))
    (hq : match feed next x d a with
      | .cont a' => ∀ h', Fr bn h.loops.length n0 h h' → J a' h' → Q .normal e h'
      | .stop a' => ∀ h', Fr bn h.loops.length n0 h h' → J a' h' → Q .ret e h'
      | .panic v => ∀ h', Fr bn h.loops.length n0 h h' → Q (.panic v) e h') :
    Run W (.rangeFunc (.tmp ft) #[pt] assign body) e h Q := by
  refine run_range (by rw [eval_tmp]; exact hf) fun rec w1 w2 w3 w4 w5 w6 => ?_
  have C : Cons (α := α) h.loops.length bn h.loops.length n0 (fun c hh => J c hh ∧ hh.loops[h.loops.length]? = some rec) (fun c hh => J c hh ∧ hh.loops[h.loops.length]? = some { rec with state := .done, pending := some .ret }) next := by
    refine ⟨Nat.le_refl _, fun c hh hk ⟨i1, i2⟩ x => ⟨Jst _ _ _ i1 x.1, x.2 _ _ (Nat.le_refl _) i2⟩, fun c hh hk ⟨i1, i2⟩ x => ⟨Jst _ _ _ i1 x.1, x.2 _ _ (Nat.le_refl _) i2⟩, fun c hh ⟨i1, i2⟩ => ⟨(List.getElem?_eq_some_iff.1 i2).1, Jbn _ _ i1⟩, ?_⟩
    rintro c hh z tk2 sz2 rows2 dd ⟨i1, i2⟩ hz k0 k1 k2
    obtain ⟨o, e1, h1, r1, rfl, r2, r3, r4⟩ := hround c hh z tk2 sz2 rows2 dd rec w1 w2 i1 hz k0 k1 k2
    have i3 : h1.loops[h.loops.length]? = some rec := by rw [r2]; exact i2
    have hl := (List.getElem?_eq_some_iff.1 i3).1
    obtain ⟨o2, e2, h2, q1, q2, q3, q4⟩ := r4 { rec with state := .busy }
    have hlb := q3 _ _ (setLoop_this (r := { rec with state := .busy }) hl)
    have hl2 := (List.getElem?_eq_some_iff.1 hlb).1
    have hrun : ∀ (r4 : Res) (h4 : Heap), roundQ h.loops.length r4 h4 o2 e2 h2 → W.round h.loops.length [.agg (row6 z.kind z.n z.no z.name tk2 sz2 rows2 dd)] hh = some (r4, h4) := by
      intro r4 h4 hr
      refine round_of_run i2 (by rw [w2]; rfl) ⟨_, e1, h1, ?_, rfl, rec, i3, w5, o2, e2, h2, ?_, hr⟩
      · rw [w3]; exact r1
      · rw [w4]; exact q1
    have fr0 : Fr bn h.loops.length n0 hh h2 := r3.trans ((Fr.setLoop (Nat.le_refl _) _).trans q2)
    have keep : ∀ (rz : LoopRec) (m : Nat) (q : LoopRec), m ≠ h.loops.length → hh.loops[m]? = some q → (h2.setLoop h.loops.length rz).loops[m]? = some q := by
      intro rz m q hm hq
      rw [setLoop_other hm]
      refine q3 _ _ ?_
      rw [setLoop_other hm, r2]
      exact hq
    cases hnx : next c z dd with
    | panic v =>
      rw [hnx] at q4
      have q4 : o2 = .panic v := q4
      subst q4
      exact ⟨_, h2, hrun (.panic v) h2 ⟨rfl, rfl⟩, fr0, rfl⟩
    | stop c' =>
      rw [hnx] at q4
      obtain ⟨rfl, q5⟩ : o2 = .ret ∧ J c' h2 := q4
      refine ⟨_, _, hrun (.ret (.v (.bool false))) (h2.setLoop h.loops.length { rec with state := .done, pending := some .ret }) ⟨_, hlb, rfl, rfl⟩, fr0.trans (Fr.setLoop (Nat.le_refl _) _), rfl, ⟨Jst _ _ _ q5 (fun _ _ h => h), setLoop_this hl2⟩, fun m q hm hq => keep _ m q (by omega) hq⟩
    | cont c' =>
      rw [hnx] at q4
      obtain ⟨rfl, q5⟩ : o2 = .normal ∧ J c' h2 := q4
      have hrec : ({ rec with state := .ready, pending := none } : LoopRec) = rec := by rw [← w5, ← w6]
      refine ⟨_, _, hrun (.ret (.v (.bool true))) (h2.setLoop h.loops.length rec) ⟨_, hlb, rfl, by rw [← hrec]; rfl⟩, fr0.trans (Fr.setLoop (Nat.le_refl _) _), rfl, ⟨Jst _ _ _ q5 (fun _ _ h => h), setLoop_this hl2⟩, fun m q hq => ?_⟩
      by_cases hm : m = h.loops.length
      · subst hm
        rw [i2] at hq
        injection hq with hq
        subst hq
        exact setLoop_this hl2
      · exact keep _ m q hm hq
  obtain ⟨r, h', hc, hfr, hfd⟩ := parts1_ev x tok sz rows hrow h.loops.length bn h.loops.length n0 _ _ next C a (h.loop rec) bx bd d ⟨Jst _ _ _ hJ (fun _ _ h => h), loop_this⟩ hn0 hbx hbd hxn hdn hd0 hd1
  have hfr2 : Fr bn h.loops.length n0 h h' := (Fr.loop_new _ _).trans hfr
  refine ⟨r, h', hc, ?_⟩
  cases hfe : feed next x d a with
  | panic v =>
    rw [hfe] at hfd hq
    have e1 : r = .panic v := hfd
    subst e1
    exact hq h' hfr2
  | stop c' =>
    rw [hfe] at hfd hq
    obtain ⟨rfl, q1, q2⟩ : r = .ret (.tuple []) ∧ J c' h' ∧ _ := hfd
    exact ⟨_, q2, by simp, .inr ⟨rfl, hq _ (hfr2.trans (Fr.setLoop (Nat.le_refl _) _)) (Jst _ _ _ q1 (fun _ _ h => h))⟩⟩
  | cont c' =>
    rw [hfe] at hfd hq
    obtain ⟨rfl, ⟨q1, q2⟩, q3⟩ : r = .ret (.tuple []) ∧ (J c' h' ∧ _) ∧ _ := hfd
    exact ⟨_, q2, by rw [w5]; simp, .inl ⟨w6, hq _ (hfr2.trans (Fr.setLoop (Nat.le_refl _) _)) (Jst _ _ _ q1 (fun _ _ h => h))⟩⟩
end Go.Proofs.YtilmhlbjjfgeoaaDoor
end

section
namespace Go.Proofs.YtilmhlbjjfgeoaaDoor
open Go.AE Go.Lex Go.Pol
/-! ### sizes -/
theorem Ext.fr {bn l0 n0 : Nat} {h h1 h2 : Heap} (x : Ext h h1) (f : Fr bn l0 n0 h1 h2) (hb : h.boxes.length ≤ bn) (hl : h.loops.length ≤ l0) (hn : h.tn ≤ n0) : Ext h h2 :=
  ⟨fun c cs hc => f.box c cs (by have := (List.getElem?_eq_some_iff.1 hc).1; omega) (x.box c cs hc), fun l r hr => f.loop l r (by have := (List.getElem?_eq_some_iff.1 hr).1; omega) (x.loop l r hr), Nat.le_trans x.tn f.tn, fun n h1 h2 => x.dead n h1 (f.dead n (Nat.lt_of_lt_of_le h1 hn) h2), fun ho => f.ok (x.ok ho)⟩
def nextS (n : Int) (_ : Ex) (d : Int) : Nx Int := if n + 1 ≤ 256 ∧ d ≤ 16 then .cont (n + 1) else .panic (stopV 2)
theorem cnt_pos (x : Ex) : 1 ≤ cnt x := by cases x; rw [cnt]; omega
theorem depth_pos (x : Ex) : 1 ≤ depthE x := by cases x; rw [depthE]; omega
theorem feedS : ∀ (x : Ex) (d n : Int), 0 ≤ n → feed nextS x d n = if n + cnt x ≤ 256 ∧ d + depthE x ≤ 17 then .cont (n + cnt x) else .panic (stopV 2) := by
  intro x
  induction x using Ex.ind with
  | h k nn no name l ih =>
    intro d n hn
    have key : ∀ r : List Ex, (∀ y ∈ r, y ∈ l) → ∀ m : Int, 0 ≤ m → m ≤ 256 → feedL nextS r (d + 1) m = if m + cntL r ≤ 256 ∧ (r = [] ∨ d + 1 + depthL r ≤ 17) then .cont (m + cntL r) else .panic (stopV 2) := by
      intro r
      induction r with
      | nil => intro _ m h1 h2; rw [feedL, cntL, if_pos ⟨by omega, .inl rfl⟩]; simp
      | cons y r ihr =>
        intro hin m h1 h2
        rw [feedL, ih y (hin y List.mem_cons_self) (d + 1) m h1, cntL, depthL]
        have hr0 : r = [] → depthL r = 0 ∧ cntL r = 0 := by intro q; subst q; exact ⟨by rw [depthL], by rw [cntL]⟩
        have hr1 : r ≠ [] → 1 ≤ depthL r := by
          intro q
          cases r with
          | nil => exact absurd rfl q
          | cons z r => rw [depthL]; have := depth_pos z; omega
        have hdp := depth_pos y
        by_cases c : m + cnt y ≤ 256 ∧ d + 1 + depthE y ≤ 17
        · rw [if_pos c]
          simp only
          rw [ihr (fun z hz => hin z (List.mem_cons_of_mem _ hz)) _ (by omega) c.1]
          have e : m + ↑(cnt y + cntL r) = m + cnt y + cntL r := by omega
          by_cases c2 : m + cnt y + cntL r ≤ 256 ∧ (r = [] ∨ d + 1 + depthL r ≤ 17)
          · have hA : d + 1 + (max (depthE y) (depthL r) : Nat) ≤ 17 := by
              rcases c2.2 with q | q
              · have := hr0 q; omega
              · omega
            rw [if_pos c2, if_pos ⟨by omega, .inr hA⟩, e]
          · rw [if_neg c2, if_neg]
            rintro ⟨q1, q2⟩
            refine c2 ⟨by omega, ?_⟩
            rcases q2 with q2 | q2
            · cases q2
            · by_cases q3 : r = []
              · exact .inl q3
              · exact .inr (by omega)
        · rw [if_neg c]
          simp only
          rw [if_neg]
          rintro ⟨q1, q2⟩
          refine c ⟨by omega, ?_⟩
          rcases q2 with q2 | q2
          · cases q2
          · omega
    rw [feed]
    unfold nextS
    rw [cnt, depthE]
    by_cases c : n + 1 ≤ 256 ∧ d ≤ 16
    · rw [if_pos c]
      simp only
      have := key l (fun _ h => h) (n + 1) (by omega) c.1
      unfold nextS at this
      rw [this]
      have hr0 : l = [] → depthL l = 0 := by intro q; subst q; rw [depthL]
      by_cases c2 : n + 1 + cntL l ≤ 256 ∧ (l = [] ∨ d + 1 + depthL l ≤ 17)
      · have hA : d + (depthL l + 1 : Nat) ≤ 17 := by
          rcases c2.2 with q | q
          · have := hr0 q; omega
          · omega
        rw [if_pos c2, if_pos ⟨by omega, hA⟩]
        congr 1; omega
      · rw [if_neg c2, if_neg]
        rintro ⟨q1, q2⟩
        exact c2 ⟨by omega, .inr (by omega)⟩
    · rw [if_neg c]
      simp only
      rw [if_neg]
      rintro ⟨q1, q2⟩
      exact c ⟨by omega, by omega⟩
theorem feedS_large (x : Ex) : feed nextS x 1 0 = if largeE x = true then .panic (stopV 2) else .cont (cnt x) := by
  rw [feedS x 1 0 (by omega)]
  have hp := parts_cnt x 256 (by omega)
  have hc := cnt_pos x
  unfold largeE
  rw [hp]
  by_cases c : (cnt x : Int) ≤ 256
  · rw [if_pos c]
    by_cases c2 : depthE x ≤ 16
    · rw [if_pos ⟨by omega, by omega⟩, if_neg]
      · simp
      · simp; omega
    · rw [if_neg (by omega), if_pos]
      simp; omega
  · rw [if_neg c, if_neg (by omega), if_pos]
    simp
theorem res37 : Tryd.f37.results.toList = [] := by kernel_rfl
theorem zc3 : (zeroA Tryd.prog 3).bind AV.cellsO = some [.v (.int .i64 0)] := by kernel_rfl
section
variable {h : Heap} {b : Nat} {k n no d k' n' no' d' : Int} {s s' : List UInt8} {tok tok' : Tok} {sz sz' : Nat} {rows rows' : List (List AV)}
theorem load77_x (hb : h.boxes[b]? = some (row6 k n no s tok sz rows d)) : loadEv Tryd.prog Gk h 26 (.ptr (.box b) 0) = some (.agg (row5 k n no s tok sz rows)) := load_agg ag26 sz26 hb (show 0 + 5 ≤ 6 by omega)
theorem store77 (hb : h.boxes[b]? = some (row6 k n no s tok sz rows d)) : storeEv Tryd.prog h 77 (.ptr (.box b) 0) (.agg (row6 k' n' no' s' tok' sz' rows' d')) = some (h.put b (row6 k' n' no' s' tok' sz' rows' d')) := store_box (off := 0) (cs := row6 k n no s tok sz rows d) (xs := row6 k' n' no' s' tok' sz' rows' d') rfl sz77 hb rfl (Nat.le_refl 6)
theorem store3 {n n' : Int} (hb : h.boxes[b]? = some [.v (.int .i64 n)]) : storeEv Tryd.prog h 3 (.ptr (.box b) 0) (.v (.int .i64 n')) = some (h.put b [.v (.int .i64 n')]) := store_box (off := 0) (cs := [.v (.int .i64 n)]) (xs := [.v (.int .i64 n')]) rfl sz3 hb rfl (Nat.le_refl 1)
end
theorem splice_one (x y : AV) : splice [x] 0 [y] = [y] := rfl
theorem few_exprs {p : Po} (f : PFew p) {x : Ex} (h : x ∈ exprs p) : cnt x ≤ 1000 := by
  rcases List.mem_append.1 h with q | q
  · obtain ⟨r, hr, rfl⟩ := List.mem_map.1 q
    exact f.r r hr
  · simp at q; subst q; exact f.c
theorem small_iff {p : Po} : smallP p = true ↔ p.offices.length ≤ 32 ∧ p.kinds.length ≤ 16 ∧ p.rules.length ≤ 16 ∧ ∀ x ∈ exprs p, largeE x = false := by
  simp only [smallP, Bool.and_eq_true, decide_eq_true_eq, Bool.not_eq_true', List.all_eq_true]
  constructor
  · rintro ⟨⟨⟨⟨h1, h2⟩, h3⟩, h4⟩, h5⟩
    refine ⟨h1, h2, h3, fun x hx => ?_⟩
    rcases List.mem_append.1 hx with q | q
    · obtain ⟨r, hr, rfl⟩ := List.mem_map.1 q
      exact h5 r hr
    · simp at q; subst q; exact h4
  · rintro ⟨h1, h2, h3, h4⟩
    exact ⟨⟨⟨⟨h1, h2⟩, h3⟩, h4 _ (by simp [exprs])⟩, fun r hr => h4 _ (List.mem_append_left _ (List.mem_map_of_mem hr))⟩
theorem row6s : (∀ (k n no : Int) (s : List UInt8) (tok : Tok) (sz : Nat) (rows : List (List AV)) (d : Int), ((row6 k n no s tok sz rows d).drop 5).head? = some (.v (.int .i64 d))) ∧ (∀ (k n no : Int) (s : List UInt8) (tok : Tok) (sz : Nat) (rows : List (List AV)) (d : Int), ((row6 k n no s tok sz rows d).drop 0).head? = some (.v (.int .i64 k))) ∧ (∀ (k n no : Int) (s : List UInt8) (tok : Tok) (sz : Nat) (rows : List (List AV)) (d : Int), ((row6 k n no s tok sz rows d).drop 2).head? = some (.v (.int .i64 no))) ∧ (∀ (k n no : Int) (s : List UInt8) (tok : Tok) (sz : Nat) (rows : List (List AV)) (d : Int), ((row6 k n no s tok sz rows d).drop 3).head? = some (.v (.string (bs s)))) ∧
    (∀ (r : Ref) (off : Nat), fieldAddrEv Tryd.prog 77 (.ptr r off) 0 = some (.ptr r (off + 0))) ∧ (∀ (r : Ref) (off : Nat), fieldAddrEv Tryd.prog 77 (.ptr r off) 1 = some (.ptr r (off + 5))) := ⟨fun _ _ _ _ _ _ _ _ => rfl, fun _ _ _ _ _ _ _ _ => rfl, fun _ _ _ _ _ _ _ _ => rfl, fun _ _ _ _ _ _ _ _ => rfl, fa77_0, fa77_1⟩
/-- A call that returns nothing, or is ended by a stop. -/
def Ends (R : Rec) (g : FuncId) (args : List AV) (h : Heap) (ok : Bool) (e : Int) : Prop := ∃ h', R.call g args h = some (if ok = true then .ret (.tuple []) else .panic (stopV e), h') ∧ Ext h h'
set_option maxHeartbeats 16000000 in
set_option maxRecDepth 100000 in
theorem sizes_ev (p : Po) (t : PT) (ok : POk p t) (few : PFew p) (h : Heap) (hok : okHeap h = true) : Ends W 37 [.agg (prow p t)] h (smallP p) 2 := by
  have u24 := Tryd.underlying24
  have a3 := ag3; have a9 := ag9; have a22 := ag22; have a23 := ag23; have a24 := ag24; have a26 := ag26; have a28 := ag28; have s26 := sz26; have s28 := sz28; have s3 := sz3; have z3 := zc3; have z26 := zc26
  have u22 := Tryd.underlying22; have u23 := Tryd.underlying23
  have hlen := ok.rules.1
  have kok := Keep.mk ok
  have kfew := Keep.mk few
  have kx0 := Keep.mk (Ext.push h (prow p t))
  suffices hs : ∃ r h', W.call 37 [.agg (prow p t)] h = some (r, h') ∧ (r = (if smallP p = true then .ret (.tuple []) else .panic (stopV 2)) ∧ Ext h h') by
    obtain ⟨r, h', q1, rfl, q3⟩ := hs
    exact ⟨h', q1, q3⟩
  obtain ⟨tokE, rowsE, h2, c2, hx2, hrE⟩ := expressions_ev p t ok few.l (h.push (prow p t)) hok
  have hlE := hrE.1
  have b1 := hx2.box _ _ (push_last h (prow p t))
  have k2 := Keep.mk (kx0.out.trans hx2)
  have krE := Keep.mk hrE
  clear hx2 hrE few hok
  refine call_post rfl Tryd.func37 rfl ?_
  by_cases hgood : p.offices.length ≤ 32 ∧ p.kinds.length ≤ 16 ∧ p.rules.length ≤ 16
  · obtain ⟨g1, g2, g3⟩ := hgood
    have d3 : decide ((p.rules.length : Int) ≤ 16) = true := decide_eq_true (by omega)
    repeat' (first | simp (config := { maxSteps := 4000000 }) (disch := first | assumption | (exact Nat.le_refl _) | omega | (simp only [List.length_cons, List.length_nil, List.length_append, push_len, put_len, len_app] <;> omega) | (simp (disch := (first | assumption | omega | (exact (push_len _ _).symm) | (simp only [push_len, put_len, len_app]; omega) | (refine Nat.le_antisymm ?_ ?_ <;> simp only [push_len, put_len, len_app] <;> omega) | fail)) only [get_push_last, get_push_eq, get_push_ne, get_put_eq, get_put_ne, get_app] <;> first | assumption | rfl) | (simp only [canApp_push, canApp_put]; assumption) | (exact start_round _ _) | (simp only [st_round, dfr_round, pn_round]; first | assumption | exact start_round _ _) | fail) only [goS, plainEv, resultsEv, resultListEv, reduceIte, Nat.reduceEqDiff, Option.map_some, Option.map_none, Option.bind_some, List.map_cons, List.map_nil, List.getD_cons_zero, List.getD_cons_succ, List.getElem?_toArray, List.getElem?_cons_zero, List.getElem?_cons_succ, eq_self, beq_self_eq_true, goH, List.append_nil, List.nil_append, res37, fp28, fp43, prs, rrs, load28, push_len, strs_len, must_ok, must_bad, *] | (refine guard_dec (fun _ => ?_) (fun _ => ?_) <;> try (exfalso; omega)) | (refine guard_ndec (fun _ => ?_) (fun _ => ?_) <;> try (exfalso; omega)) | (refine branch_dec (fun _ => ?_) (fun _ => ?_) <;> try (exfalso; omega)) | (refine branch_ndec (fun _ => ?_) (fun _ => ?_) <;> try (exfalso; omega)) | refine guard_nbool (fun _ => ?_) (fun _ => ?_) | refine branch_nbool (fun _ => ?_) (fun _ => ?_) | refine guard_bool (fun _ => ?_) (fun _ => ?_) | refine branch_bool (fun _ => ?_) (fun _ => ?_))
    have n1 := (List.getElem?_eq_some_iff.1 b1).1
    refine run_loop (fun m e h' => ∃ (i : Nat), i ≤ (exprs p).length ∧ m = (exprs p).length - i ∧ e.get 1 = .ptr (.box h.boxes.length) 0 ∧ e.get 24 = .list tokE 5 rowsE ∧ e.get 25 = .v (.int .i64 ((exprs p).length : Nat)) ∧ e.get 26 = .v (.int .i64 i) ∧ e.defers = [] ∧ Ext h h' ∧ h'.boxes[h.boxes.length]? = some (prow p t) ∧ ∀ x ∈ (exprs p).take i, largeE x = false) ?_ (exprs p).length _ _ ?_
    · rintro m e h' ⟨i, hi, rfl, q1, q24, q25, q26, hd, hx, hb, hno⟩
      have kx := Keep.mk hx
      have kno := Keep.mk hno
      clear hx hno c2 b1
      have n1' := (List.getElem?_eq_some_iff.1 hb).1
      have hle : (exprs p).length ≤ 1001 := by simp [exprs]; have := kfew.out.l; omega
      by_cases hlt : i < (exprs p).length
      · obtain ⟨y, r, hy, hr, hyr⟩ := krE.out.get hlt
        obtain ⟨tk2, sz2, rows2, rfl, -⟩ := Row.five hyr
        have hlt3 : (i : Int) < (rowsE.length : Int) := by rw [hlE]; omega
        have hlt4 : (i : Int) < ((exprs p).length : Int) := by omega
        have hle5 : 5 ≤ ((row5 y.kind y.n y.no y.name tk2 sz2 rows2).drop 0).length := by rw [List.drop_zero]; exact Nat.le_refl _
        have hpf := partsF_ev y _ hyr 1
        have kyr := Keep.mk hyr
        clear hyr
        repeat' (first | simp (config := { maxSteps := 4000000 }) (disch := first | assumption | (exact Nat.le_refl _) | omega | (simp only [List.length_cons, List.length_nil, List.length_append, push_len, put_len, len_app] <;> omega) | (simp (disch := (first | assumption | omega | (exact (push_len _ _).symm) | (simp only [push_len, put_len, len_app]; omega) | (refine Nat.le_antisymm ?_ ?_ <;> simp only [push_len, put_len, len_app] <;> omega) | fail)) only [get_push_last, get_push_eq, get_push_ne, get_put_eq, get_put_ne, get_app] <;> first | assumption | rfl) | (simp only [canApp_push, canApp_put]; assumption) | (exact start_round _ _) | (simp only [st_round, dfr_round, pn_round]; first | assumption | exact start_round _ _) | fail) only [goS, plainEv, resultsEv, resultListEv, reduceIte, Nat.reduceEqDiff, Option.map_some, Option.map_none, Option.bind_some, List.map_cons, List.map_nil, List.getD_cons_zero, List.getD_cons_succ, List.getElem?_toArray, List.getElem?_cons_zero, List.getElem?_cons_succ, eq_self, beq_self_eq_true, goH, List.append_nil, List.nil_append, res37, load26, store26, store3, index_list, load_row_agg, row5_all, cell_one, put_push_eq, put_push_ne, push_len, splice_one, *] | (refine guard_dec (fun _ => ?_) (fun _ => ?_) <;> try (exfalso; omega)) | (refine guard_ndec (fun _ => ?_) (fun _ => ?_) <;> try (exfalso; omega)) | (refine branch_dec (fun _ => ?_) (fun _ => ?_) <;> try (exfalso; omega)) | (refine branch_ndec (fun _ => ?_) (fun _ => ?_) <;> try (exfalso; omega)) | refine guard_nbool (fun _ => ?_) (fun _ => ?_) | refine branch_nbool (fun _ => ?_) (fun _ => ?_) | refine guard_bool (fun _ => ?_) (fun _ => ?_) | refine branch_bool (fun _ => ?_) (fun _ => ?_))
        have hcy := few_exprs kfew.out (List.mem_of_getElem? hy)
        have hdy := depth_cnt y
        refine Run.gen fun e2 q2 qd2 _ _ => ?_
        have p1 : e2.get 1 = .ptr (.box h.boxes.length) 0 := by rw [q2]; simp only [goS, plainEv, resultsEv, resultListEv, reduceIte, Nat.reduceEqDiff, Option.map_some, Option.map_none, Option.bind_some, List.map_cons, List.map_nil, List.getD_cons_zero, List.getD_cons_succ, List.getElem?_toArray, List.getElem?_cons_zero, List.getElem?_cons_succ, eq_self, beq_self_eq_true, goH, q1]
        have p4 : e2.get 4 = .ptr (.box (h'.boxes.length + 1)) 0 := by rw [q2]; simp only [goS, plainEv, resultsEv, resultListEv, reduceIte, Nat.reduceEqDiff, Option.map_some, Option.map_none, Option.bind_some, List.map_cons, List.map_nil, List.getD_cons_zero, List.getD_cons_succ, List.getElem?_toArray, List.getElem?_cons_zero, List.getElem?_cons_succ, eq_self, beq_self_eq_true, goH]
        have p24 : e2.get 24 = .list tokE 5 rowsE := by rw [q2]; simp only [goS, plainEv, resultsEv, resultListEv, reduceIte, Nat.reduceEqDiff, Option.map_some, Option.map_none, Option.bind_some, List.map_cons, List.map_nil, List.getD_cons_zero, List.getD_cons_succ, List.getElem?_toArray, List.getElem?_cons_zero, List.getElem?_cons_succ, eq_self, beq_self_eq_true, goH, q24]
        have p25 : e2.get 25 = .v (.int .i64 ((exprs p).length : Nat)) := by rw [q2]; simp only [goS, plainEv, resultsEv, resultListEv, reduceIte, Nat.reduceEqDiff, Option.map_some, Option.map_none, Option.bind_some, List.map_cons, List.map_nil, List.getD_cons_zero, List.getD_cons_succ, List.getElem?_toArray, List.getElem?_cons_zero, List.getElem?_cons_succ, eq_self, beq_self_eq_true, goH, q25]
        have p26 : e2.get 26 = .v (.int .i64 i) := by rw [q2]; simp only [goS, plainEv, resultsEv, resultListEv, reduceIte, Nat.reduceEqDiff, Option.map_some, Option.map_none, Option.bind_some, List.map_cons, List.map_nil, List.getD_cons_zero, List.getD_cons_succ, List.getElem?_toArray, List.getElem?_cons_zero, List.getElem?_cons_succ, eq_self, beq_self_eq_true, goH, q26]
        have p31 : e2.get 31 = .func (.func 67) [] [.ptr (.box (h'.boxes.length + 1 + 1)) 0, .ptr (.box (h'.boxes.length + 1 + 1 + 1)) 0] := by rw [q2]; simp only [goS, plainEv, resultsEv, resultListEv, reduceIte, Nat.reduceEqDiff, Option.map_some, Option.map_none, Option.bind_some, List.map_cons, List.map_nil, List.getD_cons_zero, List.getD_cons_succ, List.getElem?_toArray, List.getElem?_cons_zero, List.getElem?_cons_succ, eq_self, beq_self_eq_true, goH]
        have pd : e2.defers = [] := by rw [qd2]; simp only [goS, plainEv, resultsEv, resultListEv, reduceIte, Nat.reduceEqDiff, Option.map_some, Option.map_none, Option.bind_some, List.map_cons, List.map_nil, List.getD_cons_zero, List.getD_cons_succ, List.getElem?_toArray, List.getElem?_cons_zero, List.getElem?_cons_succ, eq_self, beq_self_eq_true, goH, hd]
        clear q2 qd2 hpf q1 q24 q25 q26 hd
        generalize hS : (((h'.push (row5 y.kind y.n y.no y.name tk2 sz2 rows2)).push [.v (.int .i64 0)]).push (row5 y.kind y.n y.no y.name tk2 sz2 rows2)).push [.v (.int .i64 1)] = hs
        have xs : Ext h' hs := by rw [← hS]; exact (((Ext.push _ _).trans (.push _ _)).trans (.push _ _)).trans (.push _ _)
        have f1 : hs.boxes[h'.boxes.length + 1]? = some [.v (.int .i64 0)] := by rw [← hS]; simp (disch := (first | assumption | omega | (exact (push_len _ _).symm) | (simp only [push_len, put_len, len_app]; omega) | (refine Nat.le_antisymm ?_ ?_ <;> simp only [push_len, put_len, len_app] <;> omega) | fail)) only [get_push_last, get_push_eq, get_push_ne, get_put_eq, get_put_ne, get_app]
        have f2 : hs.boxes[h'.boxes.length + 1 + 1]? = some (row5 y.kind y.n y.no y.name tk2 sz2 rows2) := by rw [← hS]; simp (disch := (first | assumption | omega | (exact (push_len _ _).symm) | (simp only [push_len, put_len, len_app]; omega) | (refine Nat.le_antisymm ?_ ?_ <;> simp only [push_len, put_len, len_app] <;> omega) | fail)) only [get_push_last, get_push_eq, get_push_ne, get_put_eq, get_put_ne, get_app]
        have f3 : hs.boxes[h'.boxes.length + 1 + 1 + 1]? = some [.v (.int .i64 1)] := by rw [← hS]; simp (disch := (first | assumption | omega | (exact (push_len _ _).symm) | (simp only [push_len, put_len, len_app]; omega) | (refine Nat.le_antisymm ?_ ?_ <;> simp only [push_len, put_len, len_app] <;> omega) | fail)) only [get_push_last, get_push_eq, get_push_ne, get_put_eq, get_put_ne, get_app]
        have kxs := Keep.mk xs
        clear hS xs
        refine range_feed (J := fun (n : Int) hh => hh.boxes[h'.boxes.length + 1]? = some [.v (.int .i64 n)] ∧ 0 ≤ n ∧ n ≤ 256) nextS kyr.out (bn := h'.boxes.length + 1) (n0 := h.tn) (0 : Int) p31 f2 f3 (by omega) (by omega) (by omega) (by omega) (Nat.le_trans kx.out.tn kxs.out.tn) ⟨f1, by omega, by omega⟩ (fun a h1 h2 ⟨j1, j2⟩ hb => ⟨hb _ _ j1, j2⟩) (fun a h1 ⟨j1, j2⟩ => (List.getElem?_eq_some_iff.1 j1).1) ?_ ?_
        · rintro c hh z tk3 sz3 rows3 dd rec w1 w2 ⟨j1, j2, j3⟩ hz k0 k1 k2
          have t32 : (roundEnv hs.loops.length rec [.agg (row6 z.kind z.n z.no z.name tk3 sz3 rows3 dd)]).get 32 = .agg (row6 z.kind z.n z.no z.name tk3 sz3 rows3 dd) := by rw [roundEnv_get w2 w1]; rfl
          have t4 : (roundEnv hs.loops.length rec [.agg (row6 z.kind z.n z.no z.name tk3 sz3 rows3 dd)]).get 4 = .ptr (.box (h'.boxes.length + 1)) 0 := by rw [roundEnv_get w2 w1]; exact p4
          have nh := (List.getElem?_eq_some_iff.1 j1).1
          have z77 := zc77
          clear w1 w2
          repeat' (first | simp (config := { maxSteps := 4000000 }) (disch := first | assumption | (exact Nat.le_refl _) | omega | (simp only [List.length_cons, List.length_nil, List.length_append, push_len, put_len, len_app] <;> omega) | (simp (disch := (first | assumption | omega | (exact (push_len _ _).symm) | (simp only [push_len, put_len, len_app]; omega) | (refine Nat.le_antisymm ?_ ?_ <;> simp only [push_len, put_len, len_app] <;> omega) | fail)) only [get_push_last, get_push_eq, get_push_ne, get_put_eq, get_put_ne, get_app] <;> first | assumption | rfl) | (simp only [canApp_push, canApp_put]; assumption) | (exact start_round _ _) | (simp only [st_round, dfr_round, pn_round]; first | assumption | exact start_round _ _) | fail) only [goS, plainEv, resultsEv, resultListEv, reduceIte, Nat.reduceEqDiff, Option.map_some, Option.map_none, Option.bind_some, List.map_cons, List.map_nil, List.getD_cons_zero, List.getD_cons_succ, List.getElem?_toArray, List.getElem?_cons_zero, List.getElem?_cons_succ, eq_self, beq_self_eq_true, goH, List.append_nil, List.nil_append, store77, put_push_eq, *] | (refine guard_dec (fun _ => ?_) (fun _ => ?_) <;> try (exfalso; omega)) | (refine guard_ndec (fun _ => ?_) (fun _ => ?_) <;> try (exfalso; omega)) | (refine branch_dec (fun _ => ?_) (fun _ => ?_) <;> try (exfalso; omega)) | (refine branch_ndec (fun _ => ?_) (fun _ => ?_) <;> try (exfalso; omega)) | refine guard_nbool (fun _ => ?_) (fun _ => ?_) | refine branch_nbool (fun _ => ?_) (fun _ => ?_) | refine guard_bool (fun _ => ?_) (fun _ => ?_) | refine branch_bool (fun _ => ?_) (fun _ => ?_))
          refine ⟨by first | trivial | rfl, rfl, Fr.push .., fun rb => ?_⟩
          generalize hB' : (hh.push (row6 z.kind z.n z.no z.name tk3 sz3 rows3 dd)).setLoop hs.loops.length rb = hB
          have f4 : hB.boxes[h'.boxes.length + 1]? = some [.v (.int .i64 c)] := by rw [← hB']; exact push_old j1
          have f5 : hB.boxes[hh.boxes.length]? = some (row6 z.kind z.n z.no z.name tk3 sz3 rows3 dd) := by rw [← hB']; exact push_last _ _
          have nB := (List.getElem?_eq_some_iff.1 f4).1
          clear hB'
          unfold nextS
          have fin : Fr (h'.boxes.length + 1) hs.loops.length h.tn hB (hB.put (h'.boxes.length + 1) [.v (.int .i64 (c + 1))]) := Fr.put ..
          have kfin := Keep.mk fin
          clear fin
          by_cases c1 : c + 1 ≤ 256
          · cases c2 : decide (dd ≤ 16)
            · have c2' := of_decide_eq_false c2
              rw [if_neg (fun q => c2' q.2)]
              repeat' (first | simp (config := { maxSteps := 4000000 }) (disch := first | assumption | (exact Nat.le_refl _) | omega | (simp only [List.length_cons, List.length_nil, List.length_append, push_len, put_len, len_app] <;> omega) | (simp (disch := (first | assumption | omega | (exact (push_len _ _).symm) | (simp only [push_len, put_len, len_app]; omega) | (refine Nat.le_antisymm ?_ ?_ <;> simp only [push_len, put_len, len_app] <;> omega) | fail)) only [get_push_last, get_push_eq, get_push_ne, get_put_eq, get_put_ne, get_app] <;> first | assumption | rfl) | (simp only [canApp_push, canApp_put]; assumption) | (exact start_round _ _) | (simp only [st_round, dfr_round, pn_round]; first | assumption | exact start_round _ _) | fail) only [goS, plainEv, resultsEv, resultListEv, reduceIte, Nat.reduceEqDiff, Option.map_some, Option.map_none, Option.bind_some, List.map_cons, List.map_nil, List.getD_cons_zero, List.getD_cons_succ, List.getElem?_toArray, List.getElem?_cons_zero, List.getElem?_cons_succ, eq_self, beq_self_eq_true, goH, List.append_nil, List.nil_append, store3, row6s, cell_one, splice_one, must_ok, must_bad, *] | (refine guard_dec (fun _ => ?_) (fun _ => ?_) <;> try (exfalso; omega)) | (refine guard_ndec (fun _ => ?_) (fun _ => ?_) <;> try (exfalso; omega)) | (refine branch_dec (fun _ => ?_) (fun _ => ?_) <;> try (exfalso; omega)) | (refine branch_ndec (fun _ => ?_) (fun _ => ?_) <;> try (exfalso; omega)) | refine guard_nbool (fun _ => ?_) (fun _ => ?_) | refine branch_nbool (fun _ => ?_) (fun _ => ?_) | refine guard_bool (fun _ => ?_) (fun _ => ?_) | refine branch_bool (fun _ => ?_) (fun _ => ?_))
              exact ⟨kfin.out, fun _ _ h => h, rfl⟩
            · have c2' := of_decide_eq_true c2
              rw [if_pos ⟨c1, c2'⟩]
              repeat' (first | simp (config := { maxSteps := 4000000 }) (disch := first | assumption | (exact Nat.le_refl _) | omega | (simp only [List.length_cons, List.length_nil, List.length_append, push_len, put_len, len_app] <;> omega) | (simp (disch := (first | assumption | omega | (exact (push_len _ _).symm) | (simp only [push_len, put_len, len_app]; omega) | (refine Nat.le_antisymm ?_ ?_ <;> simp only [push_len, put_len, len_app] <;> omega) | fail)) only [get_push_last, get_push_eq, get_push_ne, get_put_eq, get_put_ne, get_app] <;> first | assumption | rfl) | (simp only [canApp_push, canApp_put]; assumption) | (exact start_round _ _) | (simp only [st_round, dfr_round, pn_round]; first | assumption | exact start_round _ _) | fail) only [goS, plainEv, resultsEv, resultListEv, reduceIte, Nat.reduceEqDiff, Option.map_some, Option.map_none, Option.bind_some, List.map_cons, List.map_nil, List.getD_cons_zero, List.getD_cons_succ, List.getElem?_toArray, List.getElem?_cons_zero, List.getElem?_cons_succ, eq_self, beq_self_eq_true, goH, List.append_nil, List.nil_append, store3, row6s, cell_one, splice_one, must_ok, must_bad, *] | (refine guard_dec (fun _ => ?_) (fun _ => ?_) <;> try (exfalso; omega)) | (refine guard_ndec (fun _ => ?_) (fun _ => ?_) <;> try (exfalso; omega)) | (refine branch_dec (fun _ => ?_) (fun _ => ?_) <;> try (exfalso; omega)) | (refine branch_ndec (fun _ => ?_) (fun _ => ?_) <;> try (exfalso; omega)) | refine guard_nbool (fun _ => ?_) (fun _ => ?_) | refine branch_nbool (fun _ => ?_) (fun _ => ?_) | refine guard_bool (fun _ => ?_) (fun _ => ?_) | refine branch_bool (fun _ => ?_) (fun _ => ?_))
              exact ⟨kfin.out, fun _ _ h => h, rfl, put_this nB, by omega, c1⟩
          · rw [if_neg (fun q => c1 q.1)]
            repeat' (first | simp (config := { maxSteps := 4000000 }) (disch := first | assumption | (exact Nat.le_refl _) | omega | (simp only [List.length_cons, List.length_nil, List.length_append, push_len, put_len, len_app] <;> omega) | (simp (disch := (first | assumption | omega | (exact (push_len _ _).symm) | (simp only [push_len, put_len, len_app]; omega) | (refine Nat.le_antisymm ?_ ?_ <;> simp only [push_len, put_len, len_app] <;> omega) | fail)) only [get_push_last, get_push_eq, get_push_ne, get_put_eq, get_put_ne, get_app] <;> first | assumption | rfl) | (simp only [canApp_push, canApp_put]; assumption) | (exact start_round _ _) | (simp only [st_round, dfr_round, pn_round]; first | assumption | exact start_round _ _) | fail) only [goS, plainEv, resultsEv, resultListEv, reduceIte, Nat.reduceEqDiff, Option.map_some, Option.map_none, Option.bind_some, List.map_cons, List.map_nil, List.getD_cons_zero, List.getD_cons_succ, List.getElem?_toArray, List.getElem?_cons_zero, List.getElem?_cons_succ, eq_self, beq_self_eq_true, goH, List.append_nil, List.nil_append, store3, row6s, cell_one, splice_one, must_ok, must_bad, *] | (refine guard_dec (fun _ => ?_) (fun _ => ?_) <;> try (exfalso; omega)) | (refine guard_ndec (fun _ => ?_) (fun _ => ?_) <;> try (exfalso; omega)) | (refine branch_dec (fun _ => ?_) (fun _ => ?_) <;> try (exfalso; omega)) | (refine branch_ndec (fun _ => ?_) (fun _ => ?_) <;> try (exfalso; omega)) | refine guard_nbool (fun _ => ?_) (fun _ => ?_) | refine branch_nbool (fun _ => ?_) (fun _ => ?_) | refine guard_bool (fun _ => ?_) (fun _ => ?_) | refine branch_bool (fun _ => ?_) (fun _ => ?_))
            exact ⟨kfin.out, fun _ _ h => h, rfl⟩
        · rw [feedS_large]
          cases hlg : largeE y with
          | true =>
            simp only [if_true]
            intro h3 hf3
            have hsm : smallP p = false := by
              rw [Bool.eq_false_iff]
              intro q
              have := (small_iff.1 q).2.2.2 y (List.mem_of_getElem? hy)
              rw [hlg] at this; cases this
            repeat' (first | simp (config := { maxSteps := 4000000 }) (disch := first | assumption | (exact Nat.le_refl _) | omega | (simp only [List.length_cons, List.length_nil, List.length_append, push_len, put_len, len_app] <;> omega) | (simp (disch := (first | assumption | omega | (exact (push_len _ _).symm) | (simp only [push_len, put_len, len_app]; omega) | (refine Nat.le_antisymm ?_ ?_ <;> simp only [push_len, put_len, len_app] <;> omega) | fail)) only [get_push_last, get_push_eq, get_push_ne, get_put_eq, get_put_ne, get_app] <;> first | assumption | rfl) | (simp only [canApp_push, canApp_put]; assumption) | (exact start_round _ _) | (simp only [st_round, dfr_round, pn_round]; first | assumption | exact start_round _ _) | fail) only [goS, plainEv, resultsEv, resultListEv, reduceIte, Nat.reduceEqDiff, Option.map_some, Option.map_none, Option.bind_some, List.map_cons, List.map_nil, List.getD_cons_zero, List.getD_cons_succ, List.getElem?_toArray, List.getElem?_cons_zero, List.getElem?_cons_succ, eq_self, beq_self_eq_true, goH, List.append_nil, List.nil_append, res37, *] | (refine guard_dec (fun _ => ?_) (fun _ => ?_) <;> try (exfalso; omega)) | (refine guard_ndec (fun _ => ?_) (fun _ => ?_) <;> try (exfalso; omega)) | (refine branch_dec (fun _ => ?_) (fun _ => ?_) <;> try (exfalso; omega)) | (refine branch_ndec (fun _ => ?_) (fun _ => ?_) <;> try (exfalso; omega)) | refine guard_nbool (fun _ => ?_) (fun _ => ?_) | refine branch_nbool (fun _ => ?_) (fun _ => ?_) | refine guard_bool (fun _ => ?_) (fun _ => ?_) | refine branch_bool (fun _ => ?_) (fun _ => ?_))
            refine ⟨_, _, rfl, ?_, ?_⟩
            · first | rfl | (rw [hsm]; rfl)
            · exact Ext.fr (kx.out.trans kxs.out) hf3 (by omega) ((kx.out.trans kxs.out).llen) (Nat.le_refl _)
          | false =>
            simp only [Bool.false_eq_true, if_false]
            intro h3 hf3 _
            have x3 := Keep.mk (Ext.fr (kx.out.trans kxs.out) hf3 (by omega) ((kx.out.trans kxs.out).llen) (Nat.le_refl _))
            have hb3 := hf3.box h.boxes.length _ (by omega) (kxs.out.box _ _ hb)
            have klg := Keep.mk hlg
            clear hf3 hlg
            repeat' (first | simp (config := { maxSteps := 4000000 }) (disch := first | assumption | (exact Nat.le_refl _) | omega | (simp only [List.length_cons, List.length_nil, List.length_append, push_len, put_len, len_app] <;> omega) | (simp (disch := (first | assumption | omega | (exact (push_len _ _).symm) | (simp only [push_len, put_len, len_app]; omega) | (refine Nat.le_antisymm ?_ ?_ <;> simp only [push_len, put_len, len_app] <;> omega) | fail)) only [get_push_last, get_push_eq, get_push_ne, get_put_eq, get_put_ne, get_app] <;> first | assumption | rfl) | (simp only [canApp_push, canApp_put]; assumption) | (exact start_round _ _) | (simp only [st_round, dfr_round, pn_round]; first | assumption | exact start_round _ _) | fail) only [goS, plainEv, resultsEv, resultListEv, reduceIte, Nat.reduceEqDiff, Option.map_some, Option.map_none, Option.bind_some, List.map_cons, List.map_nil, List.getD_cons_zero, List.getD_cons_succ, List.getElem?_toArray, List.getElem?_cons_zero, List.getElem?_cons_succ, eq_self, beq_self_eq_true, goH, List.append_nil, List.nil_append, res37, *] | (refine guard_dec (fun _ => ?_) (fun _ => ?_) <;> try (exfalso; omega)) | (refine guard_ndec (fun _ => ?_) (fun _ => ?_) <;> try (exfalso; omega)) | (refine branch_dec (fun _ => ?_) (fun _ => ?_) <;> try (exfalso; omega)) | (refine branch_ndec (fun _ => ?_) (fun _ => ?_) <;> try (exfalso; omega)) | refine guard_nbool (fun _ => ?_) (fun _ => ?_) | refine branch_nbool (fun _ => ?_) (fun _ => ?_) | refine guard_bool (fun _ => ?_) (fun _ => ?_) | refine branch_bool (fun _ => ?_) (fun _ => ?_))
            refine ⟨(exprs p).length - (i + 1), by omega, i + 1, by omega, rfl, (by first | trivial | (simp; done) | (simp; omega)), (by first | trivial | (simp; done) | (simp; omega)), (by first | trivial | (simp; done) | (simp; omega)), (by first | trivial | (simp; done) | (simp; omega)), (by first | trivial | (simp; done) | (simp; omega)), x3.out, (by first | exact hb3 | trivial), fun x hx => ?_⟩
            obtain ⟨hj, rfl⟩ := List.getElem?_eq_some_iff.1 hy
            rw [List.take_succ_eq_append_getElem hj] at hx
            rcases List.mem_append.1 hx with q | q
            · exact kno.out x q
            · simp at q; subst q; exact klg.out
      · have hie : i = (exprs p).length := by omega
        subst hie
        have hlt3 : ¬ (((exprs p).length : Int) < ((exprs p).length : Int)) := by omega
        repeat' (first | simp (config := { maxSteps := 4000000 }) (disch := first | assumption | (exact Nat.le_refl _) | omega | (simp only [List.length_cons, List.length_nil, List.length_append, push_len, put_len, len_app] <;> omega) | (simp (disch := (first | assumption | omega | (exact (push_len _ _).symm) | (simp only [push_len, put_len, len_app]; omega) | (refine Nat.le_antisymm ?_ ?_ <;> simp only [push_len, put_len, len_app] <;> omega) | fail)) only [get_push_last, get_push_eq, get_push_ne, get_put_eq, get_put_ne, get_app] <;> first | assumption | rfl) | (simp only [canApp_push, canApp_put]; assumption) | (exact start_round _ _) | (simp only [st_round, dfr_round, pn_round]; first | assumption | exact start_round _ _) | fail) only [goS, plainEv, resultsEv, resultListEv, reduceIte, Nat.reduceEqDiff, Option.map_some, Option.map_none, Option.bind_some, List.map_cons, List.map_nil, List.getD_cons_zero, List.getD_cons_succ, List.getElem?_toArray, List.getElem?_cons_zero, List.getElem?_cons_succ, eq_self, beq_self_eq_true, goH, List.append_nil, List.nil_append, res37, *] | (refine guard_dec (fun _ => ?_) (fun _ => ?_) <;> try (exfalso; omega)) | (refine guard_ndec (fun _ => ?_) (fun _ => ?_) <;> try (exfalso; omega)) | (refine branch_dec (fun _ => ?_) (fun _ => ?_) <;> try (exfalso; omega)) | (refine branch_ndec (fun _ => ?_) (fun _ => ?_) <;> try (exfalso; omega)) | refine guard_nbool (fun _ => ?_) (fun _ => ?_) | refine branch_nbool (fun _ => ?_) (fun _ => ?_) | refine guard_bool (fun _ => ?_) (fun _ => ?_) | refine branch_bool (fun _ => ?_) (fun _ => ?_))
        refine ⟨_, _, rfl, ?_, kx.out⟩
        rw [if_pos (small_iff.2 ⟨g1, g2, g3, fun x hx => kno.out x (by rw [List.take_length]; exact hx)⟩)]
    · refine ⟨0, Nat.zero_le _, rfl, ?_, ?_, ?_, ?_, ?_, k2.out, b1, fun x hx => by simp at hx⟩ <;> simp only [goS, plainEv, resultsEv, resultListEv, reduceIte, Nat.reduceEqDiff, Option.map_some, Option.map_none, Option.bind_some, List.map_cons, List.map_nil, List.getD_cons_zero, List.getD_cons_succ, List.getElem?_toArray, List.getElem?_cons_zero, List.getElem?_cons_succ, eq_self, beq_self_eq_true, goH] <;> rfl
  · have kbad := Keep.mk hgood
    clear hgood
    have hsm : smallP p = false := by
      rw [Bool.eq_false_iff]
      intro q
      simp only [smallP, Bool.and_eq_true, decide_eq_true_eq] at q
      exact kbad.out ⟨q.1.1.1.1, q.1.1.1.2, q.1.1.2⟩
    have kfin : ∀ h2, Ext h h2 → ∃ r h', some (Res.panic (stopV 2), h2) = some (r, h') ∧ r = (if smallP p = true then Res.ret (AV.tuple []) else Res.panic (stopV 2)) ∧ Ext h h' := fun h2 hx => ⟨_, _, rfl, by rw [hsm]; rfl, hx⟩
    have kfin := Keep.mk kfin
    clear hsm
    cases d3 : decide ((p.rules.length : Int) ≤ 16)
    all_goals
      repeat' (first | simp (config := { maxSteps := 4000000 }) (disch := first | assumption | (exact Nat.le_refl _) | omega | (simp only [List.length_cons, List.length_nil, List.length_append, push_len, put_len, len_app] <;> omega) | (simp (disch := (first | assumption | omega | (exact (push_len _ _).symm) | (simp only [push_len, put_len, len_app]; omega) | (refine Nat.le_antisymm ?_ ?_ <;> simp only [push_len, put_len, len_app] <;> omega) | fail)) only [get_push_last, get_push_eq, get_push_ne, get_put_eq, get_put_ne, get_app] <;> first | assumption | rfl) | (simp only [canApp_push, canApp_put]; assumption) | (exact start_round _ _) | (simp only [st_round, dfr_round, pn_round]; first | assumption | exact start_round _ _) | fail) only [goS, plainEv, resultsEv, resultListEv, reduceIte, Nat.reduceEqDiff, Option.map_some, Option.map_none, Option.bind_some, List.map_cons, List.map_nil, List.getD_cons_zero, List.getD_cons_succ, List.getElem?_toArray, List.getElem?_cons_zero, List.getElem?_cons_succ, eq_self, beq_self_eq_true, goH, List.append_nil, List.nil_append, res37, fp28, fp43, prs, rrs, load28, push_len, strs_len, must_ok, must_bad, *] | (refine guard_dec (fun _ => ?_) (fun _ => ?_) <;> try (exfalso; omega)) | (refine guard_ndec (fun _ => ?_) (fun _ => ?_) <;> try (exfalso; omega)) | (refine branch_dec (fun _ => ?_) (fun _ => ?_) <;> try (exfalso; omega)) | (refine branch_ndec (fun _ => ?_) (fun _ => ?_) <;> try (exfalso; omega)) | refine guard_nbool (fun _ => ?_) (fun _ => ?_) | refine branch_nbool (fun _ => ?_) (fun _ => ?_) | refine guard_bool (fun _ => ?_) (fun _ => ?_) | refine branch_bool (fun _ => ?_) (fun _ => ?_))
      all_goals first
        | exact kfin.out _ kx0.out
        | (exfalso; have := of_decide_eq_true d3; exact kbad.out ⟨by omega, by omega, by omega⟩)
end Go.Proofs.YtilmhlbjjfgeoaaDoor
end

section
namespace Go.Proofs.YtilmhlbjjfgeoaaDoor
open Go.AE Go.Lex Go.Pol
/-! ### names -/
def okN (o : List (List UInt8)) (z : Ex) : Bool := !(decide (z.kind = 1) || decide (z.kind = 2)) || decide (0 ≤ idx o z.name)
def nextN (o : List (List UInt8)) (_ : Unit) (z : Ex) (_ : Int) : Nx Unit := if okN o z = true then .cont () else .panic (stopV 201)
theorem feedN (o : List (List UInt8)) : ∀ (x : Ex) (d : Int), feed (nextN o) x d () = if namedE o x = true then .cont () else .panic (stopV 201) := by
  intro x
  induction x using Ex.ind with
  | h k n no name l ih =>
    intro d
    have key : ∀ r : List Ex, (∀ y ∈ r, y ∈ l) → feedL (nextN o) r (d + 1) () = if namedL o r = true then .cont () else .panic (stopV 201) := by
      intro r
      induction r with
      | nil => intro _; rw [feedL, namedL]; rfl
      | cons y r ihr =>
        intro hin
        rw [feedL, ih y (hin y List.mem_cons_self), namedL]
        cases namedE o y with
        | true => simp only [if_true, Bool.true_and]; exact ihr fun z hz => hin z (List.mem_cons_of_mem _ hz)
        | false => simp
    rw [feed]
    unfold nextN
    rw [namedE]
    have hk : okN o (.mk k n no name l) = !((decide (k = 1) || decide (k = 2)) && decide (idx o name < 0)) := by
      show (!(decide (k = 1) || decide (k = 2)) || decide (0 ≤ idx o name)) = _
      rw [Bool.not_and]
      congr 1
      rw [Bool.eq_iff_iff]; simp
    rw [hk]
    cases (!((decide (k = 1) || decide (k = 2)) && decide (idx o name < 0))) with
    | true => simp only [if_true, Bool.true_and]; exact key l fun _ h => h
    | false => simp
theorem names_iff {p : Po} : namesP p = true ↔ freeB p.name = true ∧ distinctB p.offices = true ∧ distinctB p.kinds = true ∧ ∀ x ∈ exprs p, namedE p.offices x = true := by
  simp only [namesP, Bool.and_eq_true, List.all_eq_true]
  constructor
  · rintro ⟨⟨⟨⟨h1, h2⟩, h3⟩, h4⟩, h5⟩
    refine ⟨h1, h2, h3, fun x hx => ?_⟩
    rcases List.mem_append.1 hx with q | q
    · obtain ⟨r, hr, rfl⟩ := List.mem_map.1 q
      exact h4 r hr
    · simp at q; subst q; exact h5
  · rintro ⟨h1, h2, h3, h4⟩
    exact ⟨⟨⟨⟨h1, h2⟩, h3⟩, fun r hr => h4 _ (List.mem_append_left _ (List.mem_map_of_mem hr))⟩, h4 _ (by simp [exprs])⟩
theorem res38 : Tryd.f38.results.toList = [] := by kernel_rfl
set_option maxHeartbeats 16000000 in
set_option maxRecDepth 100000 in
theorem names_ev (p : Po) (t : PT) (ok : POk p t) (few : PFew p) (h : Heap) (hok : okHeap h = true) : Ends W 38 [.agg (prow p t)] h (namesP p) 201 := by
  have u24 := Tryd.underlying24
  have a3 := ag3; have a9 := ag9; have a22 := ag22; have a23 := ag23; have a24 := ag24; have a26 := ag26; have a28 := ag28; have s26 := sz26; have s28 := sz28; have s3 := sz3; have z26 := zc26
  have u22 := Tryd.underlying22; have u23 := Tryd.underlying23
  have hlen := ok.rules.1
  have kok := Keep.mk ok
  have kfew := Keep.mk few
  have kx0 := Keep.mk (Ext.push h (prow p t))
  suffices hs : ∃ r h', W.call 38 [.agg (prow p t)] h = some (r, h') ∧ (r = (if namesP p = true then .ret (.tuple []) else .panic (stopV 201)) ∧ Ext h h') by
    obtain ⟨r, h', q1, rfl, q3⟩ := hs
    exact ⟨h', q1, q3⟩
  have c0 := isFree_ev p.name (h.push (prow p t))
  have c1 := distinct_ev t.to t.so p.offices ok.zo ok.bo (h.push (prow p t))
  have c3 := distinct_ev t.tk t.sk p.kinds ok.zk ok.bk (h.push (prow p t))
  obtain ⟨tokE, rowsE, h2, c2, hx2, hrE⟩ := expressions_ev p t ok few.l (h.push (prow p t)) hok
  have hlE := hrE.1
  have b1 := hx2.box _ _ (push_last h (prow p t))
  have k2 := Keep.mk (kx0.out.trans hx2)
  have krE := Keep.mk hrE
  clear hx2 hrE few hok
  refine call_post rfl Tryd.func38 rfl ?_
  by_cases hgood : freeB p.name = true ∧ distinctB p.offices = true ∧ distinctB p.kinds = true
  · obtain ⟨g1, g2, g3⟩ := hgood
    rw [g1] at c0
    rw [g2] at c1
    rw [g3] at c3
    have kg1 := Keep.mk g1
    have kg2 := Keep.mk g2
    have kg3 := Keep.mk g3
    clear g1 g2 g3
    repeat' (first | simp (config := { maxSteps := 4000000 }) (disch := first | assumption | (exact Nat.le_refl _) | omega | (simp only [List.length_cons, List.length_nil, List.length_append, push_len, put_len, len_app] <;> omega) | (simp (disch := (first | assumption | omega | (exact (push_len _ _).symm) | (simp only [push_len, put_len, len_app]; omega) | (refine Nat.le_antisymm ?_ ?_ <;> simp only [push_len, put_len, len_app] <;> omega) | fail)) only [get_push_last, get_push_eq, get_push_ne, get_put_eq, get_put_ne, get_app] <;> first | assumption | rfl) | (simp only [canApp_push, canApp_put]; assumption) | (exact start_round _ _) | (simp only [st_round, dfr_round, pn_round]; first | assumption | exact start_round _ _) | fail) only [goS, plainEv, resultsEv, resultListEv, reduceIte, Nat.reduceEqDiff, Option.map_some, Option.map_none, Option.bind_some, List.map_cons, List.map_nil, List.getD_cons_zero, List.getD_cons_succ, List.getElem?_toArray, List.getElem?_cons_zero, List.getElem?_cons_succ, eq_self, beq_self_eq_true, goH, List.append_nil, List.nil_append, res38, fp28, fp43, prs, rrs, load28, push_len, strs_len, must_ok, must_bad, *] | (refine guard_dec (fun _ => ?_) (fun _ => ?_) <;> try (exfalso; omega)) | (refine guard_ndec (fun _ => ?_) (fun _ => ?_) <;> try (exfalso; omega)) | (refine branch_dec (fun _ => ?_) (fun _ => ?_) <;> try (exfalso; omega)) | (refine branch_ndec (fun _ => ?_) (fun _ => ?_) <;> try (exfalso; omega)) | refine guard_nbool (fun _ => ?_) (fun _ => ?_) | refine branch_nbool (fun _ => ?_) (fun _ => ?_) | refine guard_bool (fun _ => ?_) (fun _ => ?_) | refine branch_bool (fun _ => ?_) (fun _ => ?_))
    have n1 := (List.getElem?_eq_some_iff.1 b1).1
    refine run_loop (fun m e h' => ∃ (i : Nat), i ≤ (exprs p).length ∧ m = (exprs p).length - i ∧ e.get 1 = .ptr (.box h.boxes.length) 0 ∧ e.get 20 = .list tokE 5 rowsE ∧ e.get 21 = .v (.int .i64 ((exprs p).length : Nat)) ∧ e.get 22 = .v (.int .i64 i) ∧ e.defers = [] ∧ Ext h h' ∧ h'.boxes[h.boxes.length]? = some (prow p t) ∧ ∀ x ∈ (exprs p).take i, namedE p.offices x = true) ?_ (exprs p).length _ _ ?_
    · rintro m e h' ⟨i, hi, rfl, q1, q24, q25, q26, hd, hx, hb, hno⟩
      have kx := Keep.mk hx
      have kno := Keep.mk hno
      clear hx hno c2 b1 c0 c1 c3
      have n1' := (List.getElem?_eq_some_iff.1 hb).1
      have hle : (exprs p).length ≤ 1001 := by simp [exprs]; have := kfew.out.l; omega
      by_cases hlt : i < (exprs p).length
      · obtain ⟨y, r, hy, hr, hyr⟩ := krE.out.get hlt
        obtain ⟨tk2, sz2, rows2, rfl, -⟩ := Row.five hyr
        have hlt3 : (i : Int) < (rowsE.length : Int) := by rw [hlE]; omega
        have hlt4 : (i : Int) < ((exprs p).length : Int) := by omega
        have hle5 : 5 ≤ ((row5 y.kind y.n y.no y.name tk2 sz2 rows2).drop 0).length := by rw [List.drop_zero]; exact Nat.le_refl _
        have hpf := partsF_ev y _ hyr 1
        have kyr := Keep.mk hyr
        clear hyr
        repeat' (first | simp (config := { maxSteps := 4000000 }) (disch := first | assumption | (exact Nat.le_refl _) | omega | (simp only [List.length_cons, List.length_nil, List.length_append, push_len, put_len, len_app] <;> omega) | (simp (disch := (first | assumption | omega | (exact (push_len _ _).symm) | (simp only [push_len, put_len, len_app]; omega) | (refine Nat.le_antisymm ?_ ?_ <;> simp only [push_len, put_len, len_app] <;> omega) | fail)) only [get_push_last, get_push_eq, get_push_ne, get_put_eq, get_put_ne, get_app] <;> first | assumption | rfl) | (simp only [canApp_push, canApp_put]; assumption) | (exact start_round _ _) | (simp only [st_round, dfr_round, pn_round]; first | assumption | exact start_round _ _) | fail) only [goS, plainEv, resultsEv, resultListEv, reduceIte, Nat.reduceEqDiff, Option.map_some, Option.map_none, Option.bind_some, List.map_cons, List.map_nil, List.getD_cons_zero, List.getD_cons_succ, List.getElem?_toArray, List.getElem?_cons_zero, List.getElem?_cons_succ, eq_self, beq_self_eq_true, goH, List.append_nil, List.nil_append, res38, load26, store26, store3, index_list, load_row_agg, row5_all, cell_one, put_push_eq, put_push_ne, push_len, splice_one, *] | (refine guard_dec (fun _ => ?_) (fun _ => ?_) <;> try (exfalso; omega)) | (refine guard_ndec (fun _ => ?_) (fun _ => ?_) <;> try (exfalso; omega)) | (refine branch_dec (fun _ => ?_) (fun _ => ?_) <;> try (exfalso; omega)) | (refine branch_ndec (fun _ => ?_) (fun _ => ?_) <;> try (exfalso; omega)) | refine guard_nbool (fun _ => ?_) (fun _ => ?_) | refine branch_nbool (fun _ => ?_) (fun _ => ?_) | refine guard_bool (fun _ => ?_) (fun _ => ?_) | refine branch_bool (fun _ => ?_) (fun _ => ?_))
        have hcy := few_exprs kfew.out (List.mem_of_getElem? hy)
        have hdy := depth_cnt y
        refine Run.gen fun e2 q2 qd2 _ _ => ?_
        have p1 : e2.get 1 = .ptr (.box h.boxes.length) 0 := by rw [q2]; simp only [goS, plainEv, resultsEv, resultListEv, reduceIte, Nat.reduceEqDiff, Option.map_some, Option.map_none, Option.bind_some, List.map_cons, List.map_nil, List.getD_cons_zero, List.getD_cons_succ, List.getElem?_toArray, List.getElem?_cons_zero, List.getElem?_cons_succ, eq_self, beq_self_eq_true, goH, q1]
        have p24 : e2.get 20 = .list tokE 5 rowsE := by rw [q2]; simp only [goS, plainEv, resultsEv, resultListEv, reduceIte, Nat.reduceEqDiff, Option.map_some, Option.map_none, Option.bind_some, List.map_cons, List.map_nil, List.getD_cons_zero, List.getD_cons_succ, List.getElem?_toArray, List.getElem?_cons_zero, List.getElem?_cons_succ, eq_self, beq_self_eq_true, goH, q24]
        have p25 : e2.get 21 = .v (.int .i64 ((exprs p).length : Nat)) := by rw [q2]; simp only [goS, plainEv, resultsEv, resultListEv, reduceIte, Nat.reduceEqDiff, Option.map_some, Option.map_none, Option.bind_some, List.map_cons, List.map_nil, List.getD_cons_zero, List.getD_cons_succ, List.getElem?_toArray, List.getElem?_cons_zero, List.getElem?_cons_succ, eq_self, beq_self_eq_true, goH, q25]
        have p26 : e2.get 22 = .v (.int .i64 i) := by rw [q2]; simp only [goS, plainEv, resultsEv, resultListEv, reduceIte, Nat.reduceEqDiff, Option.map_some, Option.map_none, Option.bind_some, List.map_cons, List.map_nil, List.getD_cons_zero, List.getD_cons_succ, List.getElem?_toArray, List.getElem?_cons_zero, List.getElem?_cons_succ, eq_self, beq_self_eq_true, goH, q26]
        have p31 : e2.get 27 = .func (.func 67) [] [.ptr (.box (h'.boxes.length + 1)) 0, .ptr (.box (h'.boxes.length + 1 + 1)) 0] := by rw [q2]; simp only [goS, plainEv, resultsEv, resultListEv, reduceIte, Nat.reduceEqDiff, Option.map_some, Option.map_none, Option.bind_some, List.map_cons, List.map_nil, List.getD_cons_zero, List.getD_cons_succ, List.getElem?_toArray, List.getElem?_cons_zero, List.getElem?_cons_succ, eq_self, beq_self_eq_true, goH]
        have pd : e2.defers = [] := by rw [qd2]; simp only [goS, plainEv, resultsEv, resultListEv, reduceIte, Nat.reduceEqDiff, Option.map_some, Option.map_none, Option.bind_some, List.map_cons, List.map_nil, List.getD_cons_zero, List.getD_cons_succ, List.getElem?_toArray, List.getElem?_cons_zero, List.getElem?_cons_succ, eq_self, beq_self_eq_true, goH, hd]
        clear q2 qd2 hpf q1 q24 q25 q26 hd
        generalize hS : ((h'.push (row5 y.kind y.n y.no y.name tk2 sz2 rows2)).push (row5 y.kind y.n y.no y.name tk2 sz2 rows2)).push [.v (.int .i64 1)] = hs
        have xs : Ext h' hs := by rw [← hS]; exact ((Ext.push _ _).trans (.push _ _)).trans (.push _ _)
        have f1 : hs.boxes[h'.boxes.length]? = some (row5 y.kind y.n y.no y.name tk2 sz2 rows2) := by rw [← hS]; simp (disch := (first | assumption | omega | (exact (push_len _ _).symm) | (simp only [push_len, put_len, len_app]; omega) | (refine Nat.le_antisymm ?_ ?_ <;> simp only [push_len, put_len, len_app] <;> omega) | fail)) only [get_push_last, get_push_eq, get_push_ne, get_put_eq, get_put_ne, get_app]
        have f2 : hs.boxes[h'.boxes.length + 1]? = some (row5 y.kind y.n y.no y.name tk2 sz2 rows2) := by rw [← hS]; simp (disch := (first | assumption | omega | (exact (push_len _ _).symm) | (simp only [push_len, put_len, len_app]; omega) | (refine Nat.le_antisymm ?_ ?_ <;> simp only [push_len, put_len, len_app] <;> omega) | fail)) only [get_push_last, get_push_eq, get_push_ne, get_put_eq, get_put_ne, get_app]
        have f3 : hs.boxes[h'.boxes.length + 1 + 1]? = some [.v (.int .i64 1)] := by rw [← hS]; simp (disch := (first | assumption | omega | (exact (push_len _ _).symm) | (simp only [push_len, put_len, len_app]; omega) | (refine Nat.le_antisymm ?_ ?_ <;> simp only [push_len, put_len, len_app] <;> omega) | fail)) only [get_push_last, get_push_eq, get_push_ne, get_put_eq, get_put_ne, get_app]
        have kxs := Keep.mk xs
        clear hS xs
        refine range_feed (J := fun (_ : Unit) hh => hh.boxes[h.boxes.length]? = some (prow p t) ∧ h'.boxes.length < hh.boxes.length) (nextN p.offices) kyr.out (bn := h'.boxes.length) (n0 := h.tn) () p31 f2 f3 (by omega) (by omega) (by omega) (by omega) (Nat.le_trans kx.out.tn kxs.out.tn) ⟨kxs.out.box _ _ hb, (List.getElem?_eq_some_iff.1 f1).1⟩ (fun a h1 h2 ⟨j1, j2⟩ hb => ⟨hb _ _ j1, (by
          obtain ⟨c, hc⟩ : ∃ c, h1.boxes[h'.boxes.length]? = some c := ⟨_, List.getElem?_eq_getElem j2⟩
          exact (List.getElem?_eq_some_iff.1 (hb _ _ hc)).1)⟩) (fun a h1 ⟨j1, j2⟩ => j2) ?_ ?_
        · rintro c hh z tk3 sz3 rows3 dd rec w1 w2 ⟨j1, j2⟩ hz k0 k1 k2
          have t32 : (roundEnv hs.loops.length rec [.agg (row6 z.kind z.n z.no z.name tk3 sz3 rows3 dd)]).get 28 = .agg (row6 z.kind z.n z.no z.name tk3 sz3 rows3 dd) := by rw [roundEnv_get w2 w1]; rfl
          have t1 : (roundEnv hs.loops.length rec [.agg (row6 z.kind z.n z.no z.name tk3 sz3 rows3 dd)]).get 1 = .ptr (.box h.boxes.length) 0 := by rw [roundEnv_get w2 w1]; exact p1
          have nh := (List.getElem?_eq_some_iff.1 j1).1
          have z77 := zc77
          clear w1 w2
          repeat' (first | simp (config := { maxSteps := 4000000 }) (disch := first | assumption | (exact Nat.le_refl _) | omega | (simp only [List.length_cons, List.length_nil, List.length_append, push_len, put_len, len_app] <;> omega) | (simp (disch := (first | assumption | omega | (exact (push_len _ _).symm) | (simp only [push_len, put_len, len_app]; omega) | (refine Nat.le_antisymm ?_ ?_ <;> simp only [push_len, put_len, len_app] <;> omega) | fail)) only [get_push_last, get_push_eq, get_push_ne, get_put_eq, get_put_ne, get_app] <;> first | assumption | rfl) | (simp only [canApp_push, canApp_put]; assumption) | (exact start_round _ _) | (simp only [st_round, dfr_round, pn_round]; first | assumption | exact start_round _ _) | fail) only [goS, plainEv, resultsEv, resultListEv, reduceIte, Nat.reduceEqDiff, Option.map_some, Option.map_none, Option.bind_some, List.map_cons, List.map_nil, List.getD_cons_zero, List.getD_cons_succ, List.getElem?_toArray, List.getElem?_cons_zero, List.getElem?_cons_succ, eq_self, beq_self_eq_true, goH, List.append_nil, List.nil_append, store77, put_push_eq, *] | (refine guard_dec (fun _ => ?_) (fun _ => ?_) <;> try (exfalso; omega)) | (refine guard_ndec (fun _ => ?_) (fun _ => ?_) <;> try (exfalso; omega)) | (refine branch_dec (fun _ => ?_) (fun _ => ?_) <;> try (exfalso; omega)) | (refine branch_ndec (fun _ => ?_) (fun _ => ?_) <;> try (exfalso; omega)) | refine guard_nbool (fun _ => ?_) (fun _ => ?_) | refine branch_nbool (fun _ => ?_) (fun _ => ?_) | refine guard_bool (fun _ => ?_) (fun _ => ?_) | refine branch_bool (fun _ => ?_) (fun _ => ?_))
          refine ⟨by first | trivial | rfl, rfl, Fr.push .., fun rb => ?_⟩
          generalize hB' : (hh.push (row6 z.kind z.n z.no z.name tk3 sz3 rows3 dd)).setLoop hs.loops.length rb = hB
          have f4 : hB.boxes[h.boxes.length]? = some (prow p t) := by rw [← hB']; exact push_old j1
          have f5 : hB.boxes[hh.boxes.length]? = some (row6 z.kind z.n z.no z.name tk3 sz3 rows3 dd) := by rw [← hB']; exact push_last _ _
          have nB := (List.getElem?_eq_some_iff.1 f4).1
          have nB5 := (List.getElem?_eq_some_iff.1 f5).1
          have hnm : ∀ h : Heap, W.call 58 [.agg (row5 z.kind z.n z.no z.name tk3 sz3 rows3)] h = some (.ret (.v (.bool (decide (z.kind = 1) || decide (z.kind = 2)))), h.push (row5 z.kind z.n z.no z.name tk3 sz3 rows3)) := isNamed_ev z _ hz
          have hco : ∀ h : Heap, W.call 59 [.list t.to t.so (strs p.offices), .v (.string (bs z.name))] h = some (.ret (.v (.bool (decide (0 ≤ idx p.offices z.name)))), h) := contains_ev t.to t.so p.offices z.name kok.out.zo kok.out.bo
          clear hB'
          unfold nextN okN
          have fin : Fr h'.boxes.length hs.loops.length h.tn hB (hB.push (row5 z.kind z.n z.no z.name tk3 sz3 rows3)) := Fr.push ..
          have kfin := Keep.mk fin
          have kf4 := Keep.mk f4
          have kj2 := Keep.mk j2
          have jn : h'.boxes.length < hB.boxes.length + 1 := by omega
          clear fin j2
          cases b1 : (decide (z.kind = 1) || decide (z.kind = 2)) with
          | false =>
            rw [b1] at hnm
            repeat' (first | simp (config := { maxSteps := 4000000 }) (disch := first | assumption | (exact Nat.le_refl _) | omega | (simp only [List.length_cons, List.length_nil, List.length_append, push_len, put_len, len_app] <;> omega) | (simp (disch := (first | assumption | omega | (exact (push_len _ _).symm) | (simp only [push_len, put_len, len_app]; omega) | (refine Nat.le_antisymm ?_ ?_ <;> simp only [push_len, put_len, len_app] <;> omega) | fail)) only [get_push_last, get_push_eq, get_push_ne, get_put_eq, get_put_ne, get_app] <;> first | assumption | rfl) | (simp only [canApp_push, canApp_put]; assumption) | (exact start_round _ _) | (simp only [st_round, dfr_round, pn_round]; first | assumption | exact start_round _ _) | fail) only [goS, plainEv, resultsEv, resultListEv, reduceIte, Nat.reduceEqDiff, Option.map_some, Option.map_none, Option.bind_some, List.map_cons, List.map_nil, List.getD_cons_zero, List.getD_cons_succ, List.getElem?_toArray, List.getElem?_cons_zero, List.getElem?_cons_succ, eq_self, beq_self_eq_true, goH, List.append_nil, List.nil_append, load77_x, row6s, cell_one, fp28, fa26_3, prs, push_len, must_ok, must_bad, *] | (refine guard_dec (fun _ => ?_) (fun _ => ?_) <;> try (exfalso; omega)) | (refine guard_ndec (fun _ => ?_) (fun _ => ?_) <;> try (exfalso; omega)) | (refine branch_dec (fun _ => ?_) (fun _ => ?_) <;> try (exfalso; omega)) | (refine branch_ndec (fun _ => ?_) (fun _ => ?_) <;> try (exfalso; omega)) | refine guard_nbool (fun _ => ?_) (fun _ => ?_) | refine branch_nbool (fun _ => ?_) (fun _ => ?_) | refine guard_bool (fun _ => ?_) (fun _ => ?_) | refine branch_bool (fun _ => ?_) (fun _ => ?_))
            exact ⟨kfin.out, fun _ _ h => h, rfl, push_old kf4.out, by rw [push_len]; exact jn⟩
          | true =>
            rw [b1] at hnm
            cases b2 : decide (0 ≤ idx p.offices z.name) with
            | false =>
              rw [b2] at hco
              repeat' (first | simp (config := { maxSteps := 4000000 }) (disch := first | assumption | (exact Nat.le_refl _) | omega | (simp only [List.length_cons, List.length_nil, List.length_append, push_len, put_len, len_app] <;> omega) | (simp (disch := (first | assumption | omega | (exact (push_len _ _).symm) | (simp only [push_len, put_len, len_app]; omega) | (refine Nat.le_antisymm ?_ ?_ <;> simp only [push_len, put_len, len_app] <;> omega) | fail)) only [get_push_last, get_push_eq, get_push_ne, get_put_eq, get_put_ne, get_app] <;> first | assumption | rfl) | (simp only [canApp_push, canApp_put]; assumption) | (exact start_round _ _) | (simp only [st_round, dfr_round, pn_round]; first | assumption | exact start_round _ _) | fail) only [goS, plainEv, resultsEv, resultListEv, reduceIte, Nat.reduceEqDiff, Option.map_some, Option.map_none, Option.bind_some, List.map_cons, List.map_nil, List.getD_cons_zero, List.getD_cons_succ, List.getElem?_toArray, List.getElem?_cons_zero, List.getElem?_cons_succ, eq_self, beq_self_eq_true, goH, List.append_nil, List.nil_append, load77_x, row6s, cell_one, fp28, fa26_3, prs, push_len, must_ok, must_bad, *] | (refine guard_dec (fun _ => ?_) (fun _ => ?_) <;> try (exfalso; omega)) | (refine guard_ndec (fun _ => ?_) (fun _ => ?_) <;> try (exfalso; omega)) | (refine branch_dec (fun _ => ?_) (fun _ => ?_) <;> try (exfalso; omega)) | (refine branch_ndec (fun _ => ?_) (fun _ => ?_) <;> try (exfalso; omega)) | refine guard_nbool (fun _ => ?_) (fun _ => ?_) | refine branch_nbool (fun _ => ?_) (fun _ => ?_) | refine guard_bool (fun _ => ?_) (fun _ => ?_) | refine branch_bool (fun _ => ?_) (fun _ => ?_))
              exact ⟨kfin.out, fun _ _ h => h, rfl⟩
            | true =>
              rw [b2] at hco
              repeat' (first | simp (config := { maxSteps := 4000000 }) (disch := first | assumption | (exact Nat.le_refl _) | omega | (simp only [List.length_cons, List.length_nil, List.length_append, push_len, put_len, len_app] <;> omega) | (simp (disch := (first | assumption | omega | (exact (push_len _ _).symm) | (simp only [push_len, put_len, len_app]; omega) | (refine Nat.le_antisymm ?_ ?_ <;> simp only [push_len, put_len, len_app] <;> omega) | fail)) only [get_push_last, get_push_eq, get_push_ne, get_put_eq, get_put_ne, get_app] <;> first | assumption | rfl) | (simp only [canApp_push, canApp_put]; assumption) | (exact start_round _ _) | (simp only [st_round, dfr_round, pn_round]; first | assumption | exact start_round _ _) | fail) only [goS, plainEv, resultsEv, resultListEv, reduceIte, Nat.reduceEqDiff, Option.map_some, Option.map_none, Option.bind_some, List.map_cons, List.map_nil, List.getD_cons_zero, List.getD_cons_succ, List.getElem?_toArray, List.getElem?_cons_zero, List.getElem?_cons_succ, eq_self, beq_self_eq_true, goH, List.append_nil, List.nil_append, load77_x, row6s, cell_one, fp28, fa26_3, prs, push_len, must_ok, must_bad, *] | (refine guard_dec (fun _ => ?_) (fun _ => ?_) <;> try (exfalso; omega)) | (refine guard_ndec (fun _ => ?_) (fun _ => ?_) <;> try (exfalso; omega)) | (refine branch_dec (fun _ => ?_) (fun _ => ?_) <;> try (exfalso; omega)) | (refine branch_ndec (fun _ => ?_) (fun _ => ?_) <;> try (exfalso; omega)) | refine guard_nbool (fun _ => ?_) (fun _ => ?_) | refine branch_nbool (fun _ => ?_) (fun _ => ?_) | refine guard_bool (fun _ => ?_) (fun _ => ?_) | refine branch_bool (fun _ => ?_) (fun _ => ?_))
              exact ⟨kfin.out, fun _ _ h => h, rfl, push_old kf4.out, by rw [push_len]; exact jn⟩
        · rw [feedN]
          cases hlg : namedE p.offices y with
          | false =>
            simp only [Bool.false_eq_true, if_false]
            intro h3 hf3
            have hsm : namesP p = false := by
              rw [Bool.eq_false_iff]
              intro q
              have := (names_iff.1 q).2.2.2 y (List.mem_of_getElem? hy)
              rw [hlg] at this; cases this
            repeat' (first | simp (config := { maxSteps := 4000000 }) (disch := first | assumption | (exact Nat.le_refl _) | omega | (simp only [List.length_cons, List.length_nil, List.length_append, push_len, put_len, len_app] <;> omega) | (simp (disch := (first | assumption | omega | (exact (push_len _ _).symm) | (simp only [push_len, put_len, len_app]; omega) | (refine Nat.le_antisymm ?_ ?_ <;> simp only [push_len, put_len, len_app] <;> omega) | fail)) only [get_push_last, get_push_eq, get_push_ne, get_put_eq, get_put_ne, get_app] <;> first | assumption | rfl) | (simp only [canApp_push, canApp_put]; assumption) | (exact start_round _ _) | (simp only [st_round, dfr_round, pn_round]; first | assumption | exact start_round _ _) | fail) only [goS, plainEv, resultsEv, resultListEv, reduceIte, Nat.reduceEqDiff, Option.map_some, Option.map_none, Option.bind_some, List.map_cons, List.map_nil, List.getD_cons_zero, List.getD_cons_succ, List.getElem?_toArray, List.getElem?_cons_zero, List.getElem?_cons_succ, eq_self, beq_self_eq_true, goH, List.append_nil, List.nil_append, res38, *] | (refine guard_dec (fun _ => ?_) (fun _ => ?_) <;> try (exfalso; omega)) | (refine guard_ndec (fun _ => ?_) (fun _ => ?_) <;> try (exfalso; omega)) | (refine branch_dec (fun _ => ?_) (fun _ => ?_) <;> try (exfalso; omega)) | (refine branch_ndec (fun _ => ?_) (fun _ => ?_) <;> try (exfalso; omega)) | refine guard_nbool (fun _ => ?_) (fun _ => ?_) | refine branch_nbool (fun _ => ?_) (fun _ => ?_) | refine guard_bool (fun _ => ?_) (fun _ => ?_) | refine branch_bool (fun _ => ?_) (fun _ => ?_))
            refine ⟨_, _, rfl, ?_, ?_⟩
            · first | rfl | (rw [hsm]; rfl)
            · exact Ext.fr (kx.out.trans kxs.out) hf3 (by omega) ((kx.out.trans kxs.out).llen) (Nat.le_refl _)
          | true =>
            simp only [if_true]
            intro h3 hf3 _
            have x3 := Keep.mk (Ext.fr (kx.out.trans kxs.out) hf3 (by omega) ((kx.out.trans kxs.out).llen) (Nat.le_refl _))
            have hb3 := hf3.box h.boxes.length _ (by omega) (kxs.out.box _ _ hb)
            have klg := Keep.mk hlg
            clear hf3 hlg
            repeat' (first | simp (config := { maxSteps := 4000000 }) (disch := first | assumption | (exact Nat.le_refl _) | omega | (simp only [List.length_cons, List.length_nil, List.length_append, push_len, put_len, len_app] <;> omega) | (simp (disch := (first | assumption | omega | (exact (push_len _ _).symm) | (simp only [push_len, put_len, len_app]; omega) | (refine Nat.le_antisymm ?_ ?_ <;> simp only [push_len, put_len, len_app] <;> omega) | fail)) only [get_push_last, get_push_eq, get_push_ne, get_put_eq, get_put_ne, get_app] <;> first | assumption | rfl) | (simp only [canApp_push, canApp_put]; assumption) | (exact start_round _ _) | (simp only [st_round, dfr_round, pn_round]; first | assumption | exact start_round _ _) | fail) only [goS, plainEv, resultsEv, resultListEv, reduceIte, Nat.reduceEqDiff, Option.map_some, Option.map_none, Option.bind_some, List.map_cons, List.map_nil, List.getD_cons_zero, List.getD_cons_succ, List.getElem?_toArray, List.getElem?_cons_zero, List.getElem?_cons_succ, eq_self, beq_self_eq_true, goH, List.append_nil, List.nil_append, res38, *] | (refine guard_dec (fun _ => ?_) (fun _ => ?_) <;> try (exfalso; omega)) | (refine guard_ndec (fun _ => ?_) (fun _ => ?_) <;> try (exfalso; omega)) | (refine branch_dec (fun _ => ?_) (fun _ => ?_) <;> try (exfalso; omega)) | (refine branch_ndec (fun _ => ?_) (fun _ => ?_) <;> try (exfalso; omega)) | refine guard_nbool (fun _ => ?_) (fun _ => ?_) | refine branch_nbool (fun _ => ?_) (fun _ => ?_) | refine guard_bool (fun _ => ?_) (fun _ => ?_) | refine branch_bool (fun _ => ?_) (fun _ => ?_))
            refine ⟨(exprs p).length - (i + 1), by omega, i + 1, by omega, rfl, (by first | trivial | (simp; done) | (simp; omega)), (by first | trivial | (simp; done) | (simp; omega)), (by first | trivial | (simp; done) | (simp; omega)), (by first | trivial | (simp; done) | (simp; omega)), (by first | trivial | (simp; done) | (simp; omega)), x3.out, (by first | exact hb3 | trivial), fun x hx => ?_⟩
            obtain ⟨hj, rfl⟩ := List.getElem?_eq_some_iff.1 hy
            rw [List.take_succ_eq_append_getElem hj] at hx
            rcases List.mem_append.1 hx with q | q
            · exact kno.out x q
            · simp at q; subst q; exact klg.out
      · have hie : i = (exprs p).length := by omega
        subst hie
        have hlt3 : ¬ (((exprs p).length : Int) < ((exprs p).length : Int)) := by omega
        repeat' (first | simp (config := { maxSteps := 4000000 }) (disch := first | assumption | (exact Nat.le_refl _) | omega | (simp only [List.length_cons, List.length_nil, List.length_append, push_len, put_len, len_app] <;> omega) | (simp (disch := (first | assumption | omega | (exact (push_len _ _).symm) | (simp only [push_len, put_len, len_app]; omega) | (refine Nat.le_antisymm ?_ ?_ <;> simp only [push_len, put_len, len_app] <;> omega) | fail)) only [get_push_last, get_push_eq, get_push_ne, get_put_eq, get_put_ne, get_app] <;> first | assumption | rfl) | (simp only [canApp_push, canApp_put]; assumption) | (exact start_round _ _) | (simp only [st_round, dfr_round, pn_round]; first | assumption | exact start_round _ _) | fail) only [goS, plainEv, resultsEv, resultListEv, reduceIte, Nat.reduceEqDiff, Option.map_some, Option.map_none, Option.bind_some, List.map_cons, List.map_nil, List.getD_cons_zero, List.getD_cons_succ, List.getElem?_toArray, List.getElem?_cons_zero, List.getElem?_cons_succ, eq_self, beq_self_eq_true, goH, List.append_nil, List.nil_append, res38, *] | (refine guard_dec (fun _ => ?_) (fun _ => ?_) <;> try (exfalso; omega)) | (refine guard_ndec (fun _ => ?_) (fun _ => ?_) <;> try (exfalso; omega)) | (refine branch_dec (fun _ => ?_) (fun _ => ?_) <;> try (exfalso; omega)) | (refine branch_ndec (fun _ => ?_) (fun _ => ?_) <;> try (exfalso; omega)) | refine guard_nbool (fun _ => ?_) (fun _ => ?_) | refine branch_nbool (fun _ => ?_) (fun _ => ?_) | refine guard_bool (fun _ => ?_) (fun _ => ?_) | refine branch_bool (fun _ => ?_) (fun _ => ?_))
        refine ⟨_, _, rfl, ?_, kx.out⟩
        rw [if_pos (names_iff.2 ⟨kg1.out, kg2.out, kg3.out, fun x hx => kno.out x (by rw [List.take_length]; exact hx)⟩)]
    · refine ⟨0, Nat.zero_le _, rfl, ?_, ?_, ?_, ?_, ?_, k2.out, b1, fun x hx => by simp at hx⟩ <;> simp only [goS, plainEv, resultsEv, resultListEv, reduceIte, Nat.reduceEqDiff, Option.map_some, Option.map_none, Option.bind_some, List.map_cons, List.map_nil, List.getD_cons_zero, List.getD_cons_succ, List.getElem?_toArray, List.getElem?_cons_zero, List.getElem?_cons_succ, eq_self, beq_self_eq_true, goH] <;> rfl
  · have kbad := Keep.mk hgood
    clear hgood
    have hsm : namesP p = false := by
      rw [Bool.eq_false_iff]
      intro q
      have := names_iff.1 q
      exact kbad.out ⟨this.1, this.2.1, this.2.2.1⟩
    have kfin : ∀ h2, Ext h h2 → ∃ r h', some (Res.panic (stopV 201), h2) = some (r, h') ∧ r = (if namesP p = true then Res.ret (AV.tuple []) else Res.panic (stopV 201)) ∧ Ext h h' := fun h2 hx => ⟨_, _, rfl, by rw [hsm]; rfl, hx⟩
    have kfin := Keep.mk kfin
    clear hsm
    cases e1 : freeB p.name <;> cases e2 : distinctB p.offices <;> cases e3 : distinctB p.kinds
    all_goals
      first
      | (exfalso; exact kbad.out ⟨e1, e2, e3⟩)
      | (rw [e1] at c0
         rw [e2] at c1
         rw [e3] at c3
         repeat' (first | simp (config := { maxSteps := 4000000 }) (disch := first | assumption | (exact Nat.le_refl _) | omega | (simp only [List.length_cons, List.length_nil, List.length_append, push_len, put_len, len_app] <;> omega) | (simp (disch := (first | assumption | omega | (exact (push_len _ _).symm) | (simp only [push_len, put_len, len_app]; omega) | (refine Nat.le_antisymm ?_ ?_ <;> simp only [push_len, put_len, len_app] <;> omega) | fail)) only [get_push_last, get_push_eq, get_push_ne, get_put_eq, get_put_ne, get_app] <;> first | assumption | rfl) | (simp only [canApp_push, canApp_put]; assumption) | (exact start_round _ _) | (simp only [st_round, dfr_round, pn_round]; first | assumption | exact start_round _ _) | fail) only [goS, plainEv, resultsEv, resultListEv, reduceIte, Nat.reduceEqDiff, Option.map_some, Option.map_none, Option.bind_some, List.map_cons, List.map_nil, List.getD_cons_zero, List.getD_cons_succ, List.getElem?_toArray, List.getElem?_cons_zero, List.getElem?_cons_succ, eq_self, beq_self_eq_true, goH, List.append_nil, List.nil_append, res38, fp28, fp43, prs, rrs, load28, push_len, strs_len, must_ok, must_bad, *] | (refine guard_dec (fun _ => ?_) (fun _ => ?_) <;> try (exfalso; omega)) | (refine guard_ndec (fun _ => ?_) (fun _ => ?_) <;> try (exfalso; omega)) | (refine branch_dec (fun _ => ?_) (fun _ => ?_) <;> try (exfalso; omega)) | (refine branch_ndec (fun _ => ?_) (fun _ => ?_) <;> try (exfalso; omega)) | refine guard_nbool (fun _ => ?_) (fun _ => ?_) | refine branch_nbool (fun _ => ?_) (fun _ => ?_) | refine guard_bool (fun _ => ?_) (fun _ => ?_) | refine branch_bool (fun _ => ?_) (fun _ => ?_))
         all_goals exact kfin.out _ kx0.out)
end Go.Proofs.YtilmhlbjjfgeoaaDoor
end
