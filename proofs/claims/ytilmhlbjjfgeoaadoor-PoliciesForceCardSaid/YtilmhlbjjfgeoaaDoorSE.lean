/-
  Part of the proof: SE.
-/
import Derived.Test.YtilmhlbjjfgeoaaDoorSD
import Derived.Test.YtilmhlbjjfgeoaaDoorSB
set_option linter.unusedSimpArgs false
set_option linter.unusedVariables false
set_option linter.constructorNameAsVariable false
section
namespace Go.Proofs.YtilmhlbjjfgeoaaDoor
open Go.AE Go.Lex Go.Pol
/-! ### formed -/
def ruleOk (kinds : List (List UInt8)) (i : Nat) (x : Rl) : Bool := decide (kinds[i]? = some x.kind) && decide (0 ≤ x.think) && decide (x.think < 1099511627776) && formedE true x.expr
noncomputable def rulesOk (p : Po) : Bool := @decide (∀ i x, p.rules[i]? = some x → ruleOk p.kinds i x = true) (Classical.propDecidable _)
theorem rulesOk_iff {p : Po} : rulesOk p = true ↔ ∀ i x, p.rules[i]? = some x → ruleOk p.kinds i x = true := by unfold rulesOk; exact @decide_eq_true_iff _ (Classical.propDecidable _)
noncomputable def formedP (p : Po) : Bool := decide (1 ≤ p.kinds.length) && decide (p.rules.length = p.kinds.length) && decide (1 ≤ p.mode) && decide (p.mode ≤ 4) && rulesOk p && formedE false p.change
theorem zc43 : (zeroA Tryd.prog 43).bind AV.cellsO = some (rrow ⟨[], 0, 0, .mk 0 0 0 [] []⟩ .nil 0 []) := by kernel_rfl
set_option maxHeartbeats 8000000 in
set_option maxRecDepth 100000 in
theorem refFormed_ev (p : Po) (t : PT) (ok : POk p t) (h : Heap) : Says W 43 [.agg (prow p t)] h (.ret (.v (.bool (formedP p)))) := by
  have u9 := Tryd.underlying9; have u22 := Tryd.underlying22; have u23 := Tryd.underlying23; have u24 := Tryd.underlying24
  have a3 := ag3; have a9 := ag9; have a22 := ag22; have a23 := ag23; have a24 := ag24; have a26 := ag26; have a28 := ag28; have a43 := ag43; have s9 := sz9; have s26 := sz26; have s28 := sz28; have s43 := sz43
  have hlen := ok.rules.1
  have pf := @prow_fit p t
  have pf0 := @prow_fit0 p t
  have kok := Keep.mk ok
  have kx0 := Keep.mk (Ext.push h (prow p t))
  have z43 := zc43
  refine call_ex rfl Tryd.func43 rfl ?_
  by_cases hgood : 1 ≤ p.kinds.length ∧ p.rules.length = p.kinds.length ∧ 1 ≤ p.mode ∧ p.mode ≤ 4
  · obtain ⟨g1, g2, g3, g4⟩ := hgood
    have g2' : (t.rr.length : Int) = (p.kinds.length : Int) := by rw [hlen, g2]
    have kg2 := Keep.mk g2
    clear g2
    repeat' (first | simp (config := { maxSteps := 4000000 }) (disch := first | assumption | (exact Nat.le_refl _) | omega | (simp only [List.length_cons, List.length_nil, List.length_append, push_len, put_len, len_app] <;> omega) | (simp (disch := (first | assumption | omega | (exact (push_len _ _).symm) | (simp only [push_len, put_len, len_app]; omega) | (refine Nat.le_antisymm ?_ ?_ <;> simp only [push_len, put_len, len_app] <;> omega) | fail)) only [get_push_last, get_push_eq, get_push_ne, get_put_eq, get_put_ne, get_app] <;> first | assumption | rfl) | (simp only [canApp_push, canApp_put]; assumption) | (exact start_round _ _) | (simp only [st_round, dfr_round, pn_round]; first | assumption | exact start_round _ _) | fail) only [goS, plainEv, resultsEv, resultListEv, reduceIte, Nat.reduceEqDiff, Option.map_some, Option.map_none, Option.bind_some, List.map_cons, List.map_nil, List.getD_cons_zero, List.getD_cons_succ, List.getElem?_toArray, List.getElem?_cons_zero, List.getElem?_cons_succ, eq_self, beq_self_eq_true, goH, List.append_nil, List.nil_append, res43, fp28, fp43, prs, strs_len, *] | (refine guard_dec (fun _ => ?_) (fun _ => ?_) <;> try (exfalso; omega)) | (refine guard_ndec (fun _ => ?_) (fun _ => ?_) <;> try (exfalso; omega)) | (refine branch_dec (fun _ => ?_) (fun _ => ?_) <;> try (exfalso; omega)) | (refine branch_ndec (fun _ => ?_) (fun _ => ?_) <;> try (exfalso; omega)) | refine run_draw (by kernel_rfl) ?_ | refine guard_nbool (fun _ => ?_) (fun _ => ?_) | refine branch_nbool (fun _ => ?_) (fun _ => ?_) | refine guard_bool (fun _ => ?_) (fun _ => ?_) | refine branch_bool (fun _ => ?_) (fun _ => ?_))
    all_goals
      refine run_loop (fun m e h' => ∃ (i : Nat), i ≤ p.rules.length ∧ m = p.rules.length - i ∧ e.get 1 = .ptr (.box h.boxes.length) 0 ∧ e.get 3 = .v (.int .i64 i) ∧ e.defers = [] ∧ Ext h h' ∧ h'.boxes[h.boxes.length]? = some (prow p t) ∧ ∀ j x, j < i → p.rules[j]? = some x → ruleOk p.kinds j x = true) ?_ p.rules.length _ _ ?_
      · rintro m e h' ⟨i, hi, rfl, g1', g2', hd, hx, hb, hno⟩
        have kx := Keep.mk hx
        have kno := Keep.mk hno
        clear hx hno
        by_cases hlt : i < p.rules.length
        · obtain ⟨y, tok, sz, rows, hy, hr, hyr⟩ := RRows.get kok.out.rules hlt
          have h8 := kok.out.zr i hlt
          have h1 := kok.out.zk i (by have := kg2.out; omega)
          obtain ⟨s, hs⟩ : ∃ s, p.kinds[i]? = some s := ⟨_, List.getElem?_eq_getElem (by have := kg2.out; omega)⟩
          have hlt3 : (i : Int) < (t.rr.length : Int) := by rw [hlen]; omega
          have hlt4 : (i : Int) < ((strs p.kinds).length : Int) := by rw [strs_len]; have := kg2.out; omega
          have rf8 := @rrow_fit8 y tok sz rows
          have rf := @rrow_fit y tok sz rows
          have rc := @rrow_cells y tok sz rows
          have rl := @rrow_len y tok sz rows
          have rlz := @rrow_len ⟨[], 0, 0, .mk 0 0 0 [] []⟩ .nil 0 []
          have hbr := kok.out.br
          obtain ⟨h4, c4, hx4⟩ := formedE_ev true y.expr _ hyr (h'.push (rrow y tok sz rows))
          have kx4 := Keep.mk hx4
          have hb4 := hx4.box _ _ (push_old hb)
          have kb := Keep.mk hb
          have kb4 := Keep.mk hb4
          have nb : h.boxes.length ≠ h'.boxes.length := by have := (List.getElem?_eq_some_iff.1 hb).1; omega
          clear hx4 hb4
          have tail : ∀ {hh : Heap}, Ext h hh → hh.boxes[h.boxes.length]? = some (prow p t) → ruleOk p.kinds i y = true → ∀ j x, j < i + 1 → p.rules[j]? = some x → ruleOk p.kinds j x = true := by
            intro hh _ _ hok j x hj hx
            rcases Nat.lt_or_ge j i with q | q
            · exact kno.out j x q hx
            · have : j = i := by omega
              subst this
              rw [hy] at hx; injection hx with hx; subst hx; exact hok
          have ktail := Keep.mk @tail
          clear tail
          have bad : ruleOk p.kinds i y = false → formedP p = false := by
            intro hno
            have : rulesOk p = false := by
              rw [Bool.eq_false_iff]
              intro q
              have := rulesOk_iff.1 q i y hy
              rw [hno] at this; cases this
            simp [formedP, this]
          have kbad := Keep.mk bad
          clear bad
          by_cases hgd : y.kind = s ∧ 0 ≤ y.think ∧ y.think < 1099511627776 ∧ formedE true y.expr = true
          · obtain ⟨q1, q2, q3, q4⟩ := hgd
            have hok : ruleOk p.kinds i y = true := by simp [ruleOk, hs, q1, q2, q3, q4]
            rw [q4] at c4
            have khok := Keep.mk hok
            clear q4 hok
            repeat' (first | simp (config := { maxSteps := 4000000 }) (disch := first | assumption | (exact Nat.le_refl _) | omega | (simp only [List.length_cons, List.length_nil, List.length_append, push_len, put_len, len_app] <;> omega) | (simp (disch := (first | assumption | omega | (exact (push_len _ _).symm) | (simp only [push_len, put_len, len_app]; omega) | (refine Nat.le_antisymm ?_ ?_ <;> simp only [push_len, put_len, len_app] <;> omega) | fail)) only [get_push_last, get_push_eq, get_push_ne, get_put_eq, get_put_ne, get_app] <;> first | assumption | rfl) | (simp only [canApp_push, canApp_put]; assumption) | (exact start_round _ _) | (simp only [st_round, dfr_round, pn_round]; first | assumption | exact start_round _ _) | fail) only [goS, plainEv, resultsEv, resultListEv, reduceIte, Nat.reduceEqDiff, Option.map_some, Option.map_none, Option.bind_some, List.map_cons, List.map_nil, List.getD_cons_zero, List.getD_cons_succ, List.getElem?_toArray, List.getElem?_cons_zero, List.getElem?_cons_succ, eq_self, beq_self_eq_true, goH, List.append_nil, List.nil_append, res43, fp28, fp43, prs, rrs, index_list, load_row_agg, load_row, strs_get, cell_one, store_push, *] | (refine guard_dec (fun _ => ?_) (fun _ => ?_) <;> try (exfalso; omega)) | (refine guard_ndec (fun _ => ?_) (fun _ => ?_) <;> try (exfalso; omega)) | (refine branch_dec (fun _ => ?_) (fun _ => ?_) <;> try (exfalso; omega)) | (refine branch_ndec (fun _ => ?_) (fun _ => ?_) <;> try (exfalso; omega)) | refine run_draw (by kernel_rfl) ?_ | refine guard_nbool (fun _ => ?_) (fun _ => ?_) | refine branch_nbool (fun _ => ?_) (fun _ => ?_) | refine guard_bool (fun _ => ?_) (fun _ => ?_) | refine branch_bool (fun _ => ?_) (fun _ => ?_))
            exact ⟨p.rules.length - (i + 1), by omega, i + 1, by omega, rfl, trivial, rfl, trivial, (kx.out.trans (.push _ _)).trans kx4.out, kb4.out, ktail.out ((kx.out.trans (.push _ _)).trans kx4.out) kb4.out khok.out⟩
          · have kgd := Keep.mk hgd
            have hno : ruleOk p.kinds i y = false := by
              rw [Bool.eq_false_iff]
              intro q
              simp only [ruleOk, Bool.and_eq_true, decide_eq_true_eq, hs, Option.some.injEq] at q
              exact kgd.out ⟨q.1.1.1.symm, q.1.1.2, q.1.2, q.2⟩
            have kno2 := Keep.mk (kbad.out hno)
            clear hgd hno
            repeat' (first | simp (config := { maxSteps := 4000000 }) (disch := first | assumption | (exact Nat.le_refl _) | omega | (simp only [List.length_cons, List.length_nil, List.length_append, push_len, put_len, len_app] <;> omega) | (simp (disch := (first | assumption | omega | (exact (push_len _ _).symm) | (simp only [push_len, put_len, len_app]; omega) | (refine Nat.le_antisymm ?_ ?_ <;> simp only [push_len, put_len, len_app] <;> omega) | fail)) only [get_push_last, get_push_eq, get_push_ne, get_put_eq, get_put_ne, get_app] <;> first | assumption | rfl) | (simp only [canApp_push, canApp_put]; assumption) | (exact start_round _ _) | (simp only [st_round, dfr_round, pn_round]; first | assumption | exact start_round _ _) | fail) only [goS, plainEv, resultsEv, resultListEv, reduceIte, Nat.reduceEqDiff, Option.map_some, Option.map_none, Option.bind_some, List.map_cons, List.map_nil, List.getD_cons_zero, List.getD_cons_succ, List.getElem?_toArray, List.getElem?_cons_zero, List.getElem?_cons_succ, eq_self, beq_self_eq_true, goH, List.append_nil, List.nil_append, res43, fp28, fp43, prs, rrs, index_list, load_row_agg, load_row, strs_get, cell_one, store_push, *] | (refine guard_dec (fun _ => ?_) (fun _ => ?_) <;> try (exfalso; omega)) | (refine guard_ndec (fun _ => ?_) (fun _ => ?_) <;> try (exfalso; omega)) | (refine branch_dec (fun _ => ?_) (fun _ => ?_) <;> try (exfalso; omega)) | (refine branch_ndec (fun _ => ?_) (fun _ => ?_) <;> try (exfalso; omega)) | refine run_draw (by kernel_rfl) ?_ | refine guard_nbool (fun _ => ?_) (fun _ => ?_) | refine branch_nbool (fun _ => ?_) (fun _ => ?_) | refine guard_bool (fun _ => ?_) (fun _ => ?_) | refine branch_bool (fun _ => ?_) (fun _ => ?_))
            all_goals first
              | (refine answerY kno2.out.symm ?_; first | exact kx.out.trans (.push _ _) | exact (kx.out.trans (.push _ _)).trans kx4.out)
              | (exfalso; refine kgd.out ⟨?_, ?_, ?_, ?_⟩ <;> first | assumption | omega | simp_all)
        · have hie : i = p.rules.length := by omega
          subst hie
          have hlt3 : ¬ ((p.rules.length : Int) < (t.rr.length : Int)) := by rw [hlen]; omega
          have hall : rulesOk p = true := rulesOk_iff.2 fun j x hx => kno.out j x (List.getElem?_eq_some_iff.1 hx).1 hx
          obtain ⟨h4, c4, hx4⟩ := formedE_ev false p.change _ kok.out.expr h'
          have kx4 := Keep.mk hx4
          clear hx4
          repeat' (first | simp (config := { maxSteps := 4000000 }) (disch := first | assumption | (exact Nat.le_refl _) | omega | (simp only [List.length_cons, List.length_nil, List.length_append, push_len, put_len, len_app] <;> omega) | (simp (disch := (first | assumption | omega | (exact (push_len _ _).symm) | (simp only [push_len, put_len, len_app]; omega) | (refine Nat.le_antisymm ?_ ?_ <;> simp only [push_len, put_len, len_app] <;> omega) | fail)) only [get_push_last, get_push_eq, get_push_ne, get_put_eq, get_put_ne, get_app] <;> first | assumption | rfl) | (simp only [canApp_push, canApp_put]; assumption) | (exact start_round _ _) | (simp only [st_round, dfr_round, pn_round]; first | assumption | exact start_round _ _) | fail) only [goS, plainEv, resultsEv, resultListEv, reduceIte, Nat.reduceEqDiff, Option.map_some, Option.map_none, Option.bind_some, List.map_cons, List.map_nil, List.getD_cons_zero, List.getD_cons_succ, List.getElem?_toArray, List.getElem?_cons_zero, List.getElem?_cons_succ, eq_self, beq_self_eq_true, goH, List.append_nil, List.nil_append, res43, fp28, fp43, prs, *] | (refine guard_dec (fun _ => ?_) (fun _ => ?_) <;> try (exfalso; omega)) | (refine guard_ndec (fun _ => ?_) (fun _ => ?_) <;> try (exfalso; omega)) | (refine branch_dec (fun _ => ?_) (fun _ => ?_) <;> try (exfalso; omega)) | (refine branch_ndec (fun _ => ?_) (fun _ => ?_) <;> try (exfalso; omega)) | refine run_draw (by kernel_rfl) ?_ | refine guard_nbool (fun _ => ?_) (fun _ => ?_) | refine branch_nbool (fun _ => ?_) (fun _ => ?_) | refine guard_bool (fun _ => ?_) (fun _ => ?_) | refine branch_bool (fun _ => ?_) (fun _ => ?_))
          refine answerY ?_ (kx.out.trans kx4.out)
          simp [formedP, hall, g1, kg2.out, g3, g4]
      · refine ⟨0, Nat.zero_le _, rfl, ?_, ?_, ?_, kx0.out, push_last _ _, fun j x hj => absurd hj (Nat.not_lt_zero j)⟩ <;> simp only [goS, plainEv, resultsEv, resultListEv, reduceIte, Nat.reduceEqDiff, Option.map_some, Option.map_none, Option.bind_some, List.map_cons, List.map_nil, List.getD_cons_zero, List.getD_cons_succ, List.getElem?_toArray, List.getElem?_cons_zero, List.getElem?_cons_succ, eq_self, beq_self_eq_true, goH] <;> rfl
  · have hbad : ¬ (1 ≤ p.kinds.length ∧ (t.rr.length : Int) = (p.kinds.length : Int) ∧ 1 ≤ p.mode ∧ p.mode ≤ 4) := by rw [hlen]; intro q; exact hgood ⟨q.1, by omega, q.2.2⟩
    have kbad := Keep.mk hgood
    have kbad2 := Keep.mk hbad
    clear hgood hbad
    repeat' (first | simp (config := { maxSteps := 4000000 }) (disch := first | assumption | (exact Nat.le_refl _) | omega | (simp only [List.length_cons, List.length_nil, List.length_append, push_len, put_len, len_app] <;> omega) | (simp (disch := (first | assumption | omega | (exact (push_len _ _).symm) | (simp only [push_len, put_len, len_app]; omega) | (refine Nat.le_antisymm ?_ ?_ <;> simp only [push_len, put_len, len_app] <;> omega) | fail)) only [get_push_last, get_push_eq, get_push_ne, get_put_eq, get_put_ne, get_app] <;> first | assumption | rfl) | (simp only [canApp_push, canApp_put]; assumption) | (exact start_round _ _) | (simp only [st_round, dfr_round, pn_round]; first | assumption | exact start_round _ _) | fail) only [goS, plainEv, resultsEv, resultListEv, reduceIte, Nat.reduceEqDiff, Option.map_some, Option.map_none, Option.bind_some, List.map_cons, List.map_nil, List.getD_cons_zero, List.getD_cons_succ, List.getElem?_toArray, List.getElem?_cons_zero, List.getElem?_cons_succ, eq_self, beq_self_eq_true, goH, List.append_nil, List.nil_append, res43, fp28, fp43, prs, strs_len, *] | (refine guard_dec (fun _ => ?_) (fun _ => ?_) <;> try (exfalso; omega)) | (refine guard_ndec (fun _ => ?_) (fun _ => ?_) <;> try (exfalso; omega)) | (refine branch_dec (fun _ => ?_) (fun _ => ?_) <;> try (exfalso; omega)) | (refine branch_ndec (fun _ => ?_) (fun _ => ?_) <;> try (exfalso; omega)) | refine run_draw (by kernel_rfl) ?_ | refine guard_nbool (fun _ => ?_) (fun _ => ?_) | refine branch_nbool (fun _ => ?_) (fun _ => ?_) | refine guard_bool (fun _ => ?_) (fun _ => ?_) | refine branch_bool (fun _ => ?_) (fun _ => ?_))
    all_goals first
      | (refine answerY ?_ kx0.out; symm; rw [Bool.eq_false_iff]; intro q; simp only [formedP, Bool.and_eq_true, decide_eq_true_eq] at q; exact kbad.out ⟨q.1.1.1.1.1, q.1.1.1.1.2, q.1.1.1.2, q.1.1.2⟩)
      | (exfalso; refine kbad2.out ⟨?_, ?_, ?_, ?_⟩ <;> first | assumption | omega | simp_all)
end Go.Proofs.YtilmhlbjjfgeoaaDoor
end

section
namespace Go.Proofs.YtilmhlbjjfgeoaaDoor
open Go.AE Go.Lex Go.Pol
/-! ### resolved -/
theorem sameRows_of : ∀ {rows : List (List AV)}, (∀ r ∈ rows, sameL r r = true) → sameRows rows rows = true := by
  intro rows
  induction rows with
  | nil => intro _; rfl
  | cons r rows ih =>
    intro h
    rw [sameRows, h r List.mem_cons_self, ih fun q hq => h q (List.mem_cons_of_mem _ hq)]
    rfl
theorem sameTok_refl (k : Tok) : sameTok k k = true := by cases k <;> simp [sameTok]
theorem Row.same : ∀ (x : Ex) (r : List AV), Row x r → sameL r r = true := by
  intro x
  induction x using Ex.ind with
  | h k n no name l ih =>
    intro r hr
    obtain ⟨tok, sz, rows, rfl, hrows, -, -⟩ := Row.five hr
    have : sameRows rows rows = true := sameRows_of fun q hq => by
      obtain ⟨i, hi, rfl⟩ := List.mem_iff_getElem.1 hq
      have hi' : i < l.length := by have := hrows.1; simp only [Ex.l] at this; omega
      exact ih l[i] (List.getElem_mem hi') _ (hrows.2 i _ _ (by simp only [Ex.l]; exact List.getElem?_eq_getElem hi') (List.getElem?_eq_getElem hi))
    simp [row5, sameL, sameAV, sameV, this, sameTok_refl]
theorem Rows.same {l : List Ex} {rows : List (List AV)} (h : Pol.Rows l rows) : sameRows rows rows = true := sameRows_of fun q hq => by
  obtain ⟨i, hi, rfl⟩ := List.mem_iff_getElem.1 hq
  have hi' : i < l.length := by have := h.1; omega
  exact Row.same l[i] _ (h.2 i _ _ (List.getElem?_eq_getElem hi') (List.getElem?_eq_getElem hi))
mutual
noncomputable def resE (o : List (List UInt8)) : Ex → Ex
  | .mk k n _ s l => .mk k n (if k = 1 ∨ k = 2 then idx o s else 0) s (resL o l)
noncomputable def resL (o : List (List UInt8)) : List Ex → List Ex
  | [] => []
  | x :: r => resE o x :: resL o r
end
theorem resL_map (o : List (List UInt8)) (l : List Ex) : resL o l = l.map (resE o) := by
  induction l with
  | nil => rw [resL]; rfl
  | cons x l ih => rw [resL, ih]; rfl
theorem cntL_len (l : List Ex) : l.length ≤ cntL l := by
  induction l with
  | nil => exact Nat.zero_le _
  | cons x l ih =>
    rw [cntL, List.length_cons]
    have : 1 ≤ cnt x := by cases x; rw [cnt]; omega
    omega
theorem app_ex {h : Heap} {k : Tok} {sz : Nat} {rows : List (List AV)} {r : List AV} (hk : CanApp 0 h k) (hs : sz = 5 ∨ (rows = [] ∧ k = .nil)) (hl : rows.length ≤ 70000) :
    appendEv Tryd.prog h #[24, 24] (.list k sz rows) (.list .tight 5 [r]) = some (.list (.free h.tn) 5 (rows ++ [r]), h.app k) := by
  have hi : (Tryd.prog.info? 26).map (fun i => (i.bytes, i.size, i.zero.map fun z => z.cells.size)) = some (64, 5, some 5) := by kernel_rfl
  cases hq : Tryd.prog.info? 26 with
  | none => rw [hq] at hi; cases hi
  | some i =>
    rw [hq] at hi
    simp only [Option.map_some, Option.some.injEq, Prod.mk.injEq] at hi
    obtain ⟨i1, i2, i3⟩ := hi
    have := append_rows (k' := .tight) (new := [r]) (es := rows) Tryd.underlying24 Tryd.underlying24 hq (by omega) (by rw [i3, i2]) (by simp) (by rw [i1]; simp only [List.length_singleton]; omega) (by simp only [List.length_singleton]; omega)
      (by rw [i2]; exact hs) hk
    rw [i2] at this
    exact this
theorem build24 (k n no : Int) (s : List UInt8) (tok : Tok) (sz : Nat) (rows : List (List AV)) : buildSliceEv Tryd.prog 24 1 [(0, .agg (row5 k n no s tok sz rows))] = some (.list .tight 5 [row5 k n no s tok sz rows]) := by kernel_rfl
section
variable {h : Heap} {b : Nat} {k n no k' n' no' : Int} {s s' : List UInt8} {tok tok' : Tok} {sz sz' : Nat} {rows rows' : List (List AV)}
theorem load26 (hb : h.boxes[b]? = some (row5 k n no s tok sz rows)) : loadEv Tryd.prog Gk h 26 (.ptr (.box b) 0) = some (.agg (row5 k n no s tok sz rows)) := load_agg ag26 sz26 hb (Nat.le_refl _)
theorem store26 (hb : h.boxes[b]? = some (row5 k n no s tok sz rows)) : storeEv Tryd.prog h 26 (.ptr (.box b) 0) (.agg (row5 k' n' no' s' tok' sz' rows')) = some (h.put b (row5 k' n' no' s' tok' sz' rows')) := store_box (off := 0) (cs := row5 k n no s tok sz rows) (xs := row5 k' n' no' s' tok' sz' rows') rfl sz26 hb rfl (Nat.le_refl 5)
theorem store26_2 {i : Int} (hb : h.boxes[b]? = some (row5 k n no s tok sz rows)) : storeEv Tryd.prog h 3 (.ptr (.box b) 2) (.v (.int .i64 i)) = some (h.put b (row5 k n i s tok sz rows)) := store_box (off := 2) (cs := row5 k n no s tok sz rows) (xs := [.v (.int .i64 i)]) rfl sz3 hb rfl (show 2 + 1 ≤ 5 by omega)
theorem store26_4 (hb : h.boxes[b]? = some (row5 k n no s tok sz rows)) : storeEv Tryd.prog h 24 (.ptr (.box b) 4) (.list tok' sz' rows') = some (h.put b (row5 k n no s tok' sz' rows')) := store_box (off := 4) (cs := row5 k n no s tok sz rows) (xs := [.list tok' sz' rows']) rfl sz24 hb rfl (show 4 + 1 ≤ 5 by omega)
end
theorem put_push_eq {h : Heap} {z cs : List AV} {b : Nat} (hb : b = h.boxes.length) : (h.push z).put b cs = h.push cs := by subst hb; exact put_push h z cs
theorem res44 : Tryd.f44.results.toList = [.cell 4 26] := by kernel_rfl
/-- What resolving leaves. -/
def GivesEx (R : Rec) (g : FuncId) (args : List AV) (h : Heap) (x : Ex) : Prop := ∃ tok sz rows h', R.call g args h = some (.ret (.agg (row5 x.kind x.n x.no x.name tok sz rows)), h') ∧ Ext h h' ∧ Row x (row5 x.kind x.n x.no x.name tok sz rows)
set_option maxHeartbeats 8000000 in
set_option maxRecDepth 100000 in
theorem refResolved_ev (tk : Tok) (so : Nat) (o : List (List UInt8)) (hz : ∀ i : Nat, i < o.length → so = 1) (hl : o.length ≤ 9223372036854775807) : ∀ (x : Ex) (tok : Tok) (sz : Nat) (rows : List (List AV)), Row x (row5 x.kind x.n x.no x.name tok sz rows) → cnt x ≤ 1000 → ∀ h, okHeap h = true →
    GivesEx W 44 [.list tk so (strs o), .agg (row5 x.kind x.n x.no x.name tok sz rows)] h (resE o x) := by
  intro x
  induction x using Ex.ind with
  | h kk nn no name l ih =>
    intro tok sz rows hrow hcn h hok
    obtain ⟨hrows, hsz, hbd⟩ := Row.got hrow
    have ux := Tryd.underlying24
    have a3 := ag3; have a9 := ag9; have a24 := ag24; have a26 := ag26; have s26 := sz26; have s3 := sz3; have s24 := sz24; have z26 := zc26
    have hlen := hrows.1
    simp only [Ex.kind, Ex.n, Ex.no, Ex.name, Ex.l] at hrows hsz hlen hbd ⊢
    have kr := Keep.mk hrows
    have kz := Keep.mk hsz
    have kih := Keep.mk ih
    have kcn := Keep.mk hcn
    have kok := Keep.mk hok
    have hix := fun h => refIndex_ev tk so o name hz hl h
    --have rl : ∀ (k n no : Int) (s : List UInt8) (tok : Tok) (sz : Nat) (rows : List (List AV)), (row5 k n no s tok sz rows).length = 5 := fun _ _ _ _ _ _ _ => rfl
    --have rc : ∀ (k n no : Int) (s : List UInt8) (tok : Tok) (sz : Nat) (rows : List (List AV)), (AV.agg (row5 k n no s tok sz rows)).cellsO = some (row5 k n no s tok sz rows) := fun _ _ _ _ _ _ _ => rfl
    clear hrows hsz ih hz
    rw [resE]
    suffices hs : ∃ r h', W.call 44 [.list tk so (strs o), .agg (row5 kk nn no name tok sz rows)] h = some (r, h') ∧ (∃ tok' sz' rows', r = .ret (.agg (row5 kk nn (if kk = 1 ∨ kk = 2 then idx o name else 0) name tok' sz' rows')) ∧ Ext h h' ∧ Row (.mk kk nn (if kk = 1 ∨ kk = 2 then idx o name else 0) name (resL o l)) (row5 kk nn (if kk = 1 ∨ kk = 2 then idx o name else 0) name tok' sz' rows')) by
      obtain ⟨r, h', q1, tok', sz', rows', rfl, q2, q3⟩ := hs
      exact ⟨tok', sz', rows', h', q1, q2, q3⟩
    obtain ⟨N, hN⟩ : ∃ N, N = if kk = 1 ∨ kk = 2 then idx o name else 0 := ⟨_, rfl⟩
    rw [← hN]
    have hix2 : (kk = 1 ∨ kk = 2) → ∀ h : Heap, W.call 66 [.list tk so (strs o), .v (.string (bs name))] h = some (.ret (.v (.int .i64 N)), h) := by
      intro q
      rw [if_pos q] at hN
      rw [hN]
      exact hix
    have hcase : (decide (kk = 1) = true ∧ decide (kk = 2) = false ∧ ∀ h : Heap, W.call 66 [.list tk so (strs o), .v (.string (bs name))] h = some (.ret (.v (.int .i64 N)), h)) ∨ (decide (kk = 1) = false ∧ decide (kk = 2) = true ∧ ∀ h : Heap, W.call 66 [.list tk so (strs o), .v (.string (bs name))] h = some (.ret (.v (.int .i64 N)), h)) ∨ (decide (kk = 1) = false ∧ decide (kk = 2) = false ∧ True) := by
      by_cases q1 : kk = 1
      · exact .inl ⟨by simp [q1], by simp [q1], hix2 (.inl q1)⟩
      · by_cases q2 : kk = 2
        · exact .inr (.inl ⟨by simp [q1], by simp [q2], hix2 (.inr q2)⟩)
        · exact .inr (.inr ⟨by simp [q1], by simp [q2], trivial⟩)
    have kz0 := Keep.mk (show decide (kk = 1) = false → decide (kk = 2) = false → N = 0 by
      intro q1 q2
      have q1 : ¬ kk = 1 := by simpa using q1
      have q2 : ¬ kk = 2 := by simpa using q2
      rw [if_neg (fun q => q.elim q1 q2)] at hN
      exact hN)
    clear hix hix2 hN
    refine call_post rfl Tryd.func44 rfl ?_
    rcases hcase with ⟨d1, d2, hix⟩ | ⟨d1, d2, hix⟩ | ⟨d1, d2, hix⟩
    all_goals
      repeat' (first | simp (config := { maxSteps := 4000000 }) (disch := first | assumption | (exact Nat.le_refl _) | omega | (simp only [List.length_cons, List.length_nil, List.length_append, push_len, put_len, len_app] <;> omega) | (simp (disch := (first | assumption | omega | (exact (push_len _ _).symm) | (simp only [push_len, put_len, len_app]; omega) | (refine Nat.le_antisymm ?_ ?_ <;> simp only [push_len, put_len, len_app] <;> omega) | fail)) only [get_push_last, get_push_eq, get_push_ne, get_put_eq, get_put_ne, get_app] <;> first | assumption | rfl) | (simp only [canApp_push, canApp_put]; assumption) | (exact start_round _ _) | (simp only [st_round, dfr_round, pn_round]; first | assumption | exact start_round _ _) | fail) only [goS, plainEv, resultsEv, resultListEv, reduceIte, Nat.reduceEqDiff, Option.map_some, Option.map_none, Option.bind_some, List.map_cons, List.map_nil, List.getD_cons_zero, List.getD_cons_succ, List.getElem?_toArray, List.getElem?_cons_zero, List.getElem?_cons_succ, eq_self, beq_self_eq_true, goH, List.append_nil, List.nil_append, res44, row5_cells, row5_0, row5_3, row5_all, fa26_0, fa26_2, fa26_3, fa26_4, load26, store26, store26_2, store26_4, put_push_eq, push_len, *] | (refine guard_dec (fun _ => ?_) (fun _ => ?_) <;> try (exfalso; omega)) | (refine guard_ndec (fun _ => ?_) (fun _ => ?_) <;> try (exfalso; omega)) | (refine branch_dec (fun _ => ?_) (fun _ => ?_) <;> try (exfalso; omega)) | (refine branch_ndec (fun _ => ?_) (fun _ => ?_) <;> try (exfalso; omega)) | refine run_draw (by kernel_rfl) ?_ | refine guard_nbool (fun _ => ?_) (fun _ => ?_) | refine branch_nbool (fun _ => ?_) (fun _ => ?_) | refine guard_bool (fun _ => ?_) (fun _ => ?_) | refine branch_bool (fun _ => ?_) (fun _ => ?_))
      try rw [show (row5 kk nn 0 name .nil 0 [] : List AV) = row5 kk nn N name .nil 0 [] from by rw [kz0.out d1 d2]]
      refine run_loop (fun m e h' => ∃ (i : Nat) (tokR : Tok) (szR : Nat) (rowsR : List (List AV)), i ≤ l.length ∧ m = l.length - i ∧ e.get 0 = .list tk so (strs o) ∧ e.get 3 = .ptr (.box h.boxes.length) 0 ∧ e.get 4 = .ptr (.box (h.boxes.length + 1)) 0 ∧ e.get 5 = .ptr (.box (h.boxes.length + 1 + 1)) 0 ∧ e.get 6 = .v (.int .i64 i) ∧ e.defers = [] ∧
        h'.boxes[h.boxes.length]? = some (row5 kk nn no name tok sz rows) ∧ h'.boxes[h.boxes.length + 1]? = some (row5 0 0 0 [] .nil 0 []) ∧ h'.boxes[h.boxes.length + 1 + 1]? = some (row5 kk nn N name tokR szR rowsR) ∧ Pol.Rows (resL o (l.take i)) rowsR ∧ CanApp h.tn h' tokR ∧ (szR = 5 ∨ (rowsR = [] ∧ tokR = .nil)) ∧ Ext h h' ∧ okHeap h' = true) ?_ l.length _ _ ?_
      · rintro m e h' ⟨i, tokR, szR, rowsR, hi, rfl, g0, g3, g4, g5, g6, hd, hb1, hb2, hb3, hrr, hca, hsr, hx, hok'⟩
        have hrl := hrr.1
        have khrr := Keep.mk hrr
        have kx := Keep.mk hx
        have kca := Keep.mk hca
        have ksr := Keep.mk hsr
        have kok' := Keep.mk hok'
        clear hrr hx hca hsr hok'
        by_cases hlt : i < l.length
        · obtain ⟨y, r, hy, hr, hyr⟩ := kr.out.get hlt
          have h5 := kz.out i hlt
          subst h5
          obtain ⟨tk2, sz2, rows2, rfl, -⟩ := Row.five hyr
          have hlt3 : (i : Int) < (rows.length : Int) := by rw [hlen]; omega
          have hle5 : 5 ≤ ((row5 y.kind y.n y.no y.name tk2 sz2 rows2).drop 0).length := by rw [List.drop_zero]; exact Nat.le_refl _
          have hcy : cnt y ≤ 1000 := by have := cntL_mem (List.mem_of_getElem? hy); have := kcn.out; rw [cnt] at this; omega
          have hll : l.length ≤ 1000 := by have := cntL_len l; have := kcn.out; rw [cnt] at this; omega
          obtain ⟨tok4, sz4, rows4, h4, c4, hx4, hr4⟩ := kih.out y (List.mem_of_getElem? hy) tk2 sz2 rows2 hyr hcy h' kok'.out
          have hrl2 : rowsR.length ≤ 70000 := by rw [hrl, resL_map, List.length_map, List.length_take]; omega
          have happ := app_ex (h := h4) (r := row5 (resE o y).kind (resE o y).n (resE o y).no (resE o y).name tok4 sz4 rows4) ((kca.out.ext hx4).mono (Nat.zero_le _)) ksr.out hrl2
          have e1 := hx4.box _ _ hb1
          have e2 := hx4.box _ _ hb2
          have e3 := hx4.box _ _ hb3
          have kx4 := Keep.mk hx4
          have khr4 := Keep.mk hr4
          clear hx4 hr4
          repeat' (first | simp (config := { maxSteps := 4000000 }) (disch := first | assumption | (exact Nat.le_refl _) | omega | (simp only [List.length_cons, List.length_nil, List.length_append, push_len, put_len, len_app] <;> omega) | (simp (disch := (first | assumption | omega | (exact (push_len _ _).symm) | (simp only [push_len, put_len, len_app]; omega) | (refine Nat.le_antisymm ?_ ?_ <;> simp only [push_len, put_len, len_app] <;> omega) | fail)) only [get_push_last, get_push_eq, get_push_ne, get_put_eq, get_put_ne, get_app] <;> first | assumption | rfl) | (simp only [canApp_push, canApp_put]; assumption) | (exact start_round _ _) | (simp only [st_round, dfr_round, pn_round]; first | assumption | exact start_round _ _) | fail) only [goS, plainEv, resultsEv, resultListEv, reduceIte, Nat.reduceEqDiff, Option.map_some, Option.map_none, Option.bind_some, List.map_cons, List.map_nil, List.getD_cons_zero, List.getD_cons_succ, List.getElem?_toArray, List.getElem?_cons_zero, List.getElem?_cons_succ, eq_self, beq_self_eq_true, goH, List.append_nil, List.nil_append, res44, row5_4, fa26_4, load26, *] | (refine guard_dec (fun _ => ?_) (fun _ => ?_) <;> try (exfalso; omega)) | (refine guard_ndec (fun _ => ?_) (fun _ => ?_) <;> try (exfalso; omega)) | (refine branch_dec (fun _ => ?_) (fun _ => ?_) <;> try (exfalso; omega)) | (refine branch_ndec (fun _ => ?_) (fun _ => ?_) <;> try (exfalso; omega)) | refine guard_nbool (fun _ => ?_) (fun _ => ?_) | refine branch_nbool (fun _ => ?_) (fun _ => ?_) | refine guard_bool (fun _ => ?_) (fun _ => ?_) | refine branch_bool (fun _ => ?_) (fun _ => ?_))
          refine run_draw_but [(1, 8)] (by kernel_rfl) ?_ ?_
          · intro p hp
            simp only [List.mem_singleton] at hp
            subst hp
            refine stable_before (x := .ptr (.box (h.boxes.length + 1 + 1)) 4) (v := .list tokR szR rowsR) (by kernel_rfl) rfl rfl rfl (by kernel_rfl) (by rw [sameAV, sameTok_refl, Rows.same khrr.out]; simp) ?_ ?_
            · simp only [List.take_succ_cons, List.take_zero]
              repeat' (first | simp (config := { maxSteps := 4000000 }) (disch := first | assumption | (exact Nat.le_refl _) | omega | (simp only [List.length_cons, List.length_nil, List.length_append, push_len, put_len, len_app] <;> omega) | (simp (disch := (first | assumption | omega | (exact (push_len _ _).symm) | (simp only [push_len, put_len, len_app]; omega) | (refine Nat.le_antisymm ?_ ?_ <;> simp only [push_len, put_len, len_app] <;> omega) | fail)) only [get_push_last, get_push_eq, get_push_ne, get_put_eq, get_put_ne, get_app] <;> first | assumption | rfl) | (simp only [canApp_push, canApp_put]; assumption) | (exact start_round _ _) | (simp only [st_round, dfr_round, pn_round]; first | assumption | exact start_round _ _) | fail) only [goS, plainEv, resultsEv, resultListEv, reduceIte, Nat.reduceEqDiff, Option.map_some, Option.map_none, Option.bind_some, List.map_cons, List.map_nil, List.getD_cons_zero, List.getD_cons_succ, List.getElem?_toArray, List.getElem?_cons_zero, List.getElem?_cons_succ, eq_self, beq_self_eq_true, goH, List.append_nil, List.nil_append, fa26_4, row5_4, *] | (refine guard_dec (fun _ => ?_) (fun _ => ?_) <;> try (exfalso; omega)) | (refine guard_ndec (fun _ => ?_) (fun _ => ?_) <;> try (exfalso; omega)) | (refine branch_dec (fun _ => ?_) (fun _ => ?_) <;> try (exfalso; omega)) | (refine branch_ndec (fun _ => ?_) (fun _ => ?_) <;> try (exfalso; omega)) | refine guard_nbool (fun _ => ?_) (fun _ => ?_) | refine branch_nbool (fun _ => ?_) (fun _ => ?_) | refine guard_bool (fun _ => ?_) (fun _ => ?_) | refine branch_bool (fun _ => ?_) (fun _ => ?_))
              simp only [and_self]
            · simp only [List.take_succ_cons, List.take_zero]
              repeat' (first | simp (config := { maxSteps := 4000000 }) (disch := first | assumption | (exact Nat.le_refl _) | omega | (simp only [List.length_cons, List.length_nil, List.length_append, push_len, put_len, len_app] <;> omega) | (simp (disch := (first | assumption | omega | (exact (push_len _ _).symm) | (simp only [push_len, put_len, len_app]; omega) | (refine Nat.le_antisymm ?_ ?_ <;> simp only [push_len, put_len, len_app] <;> omega) | fail)) only [get_push_last, get_push_eq, get_push_ne, get_put_eq, get_put_ne, get_app] <;> first | assumption | rfl) | (simp only [canApp_push, canApp_put]; assumption) | (exact start_round _ _) | (simp only [st_round, dfr_round, pn_round]; first | assumption | exact start_round _ _) | fail) only [goS, plainEv, resultsEv, resultListEv, reduceIte, Nat.reduceEqDiff, Option.map_some, Option.map_none, Option.bind_some, List.map_cons, List.map_nil, List.getD_cons_zero, List.getD_cons_succ, List.getElem?_toArray, List.getElem?_cons_zero, List.getElem?_cons_succ, eq_self, beq_self_eq_true, goH, List.append_nil, List.nil_append, fa26_4, row5_4, index_list, load_row_agg, row5_all, *] | (refine guard_dec (fun _ => ?_) (fun _ => ?_) <;> try (exfalso; omega)) | (refine guard_ndec (fun _ => ?_) (fun _ => ?_) <;> try (exfalso; omega)) | (refine branch_dec (fun _ => ?_) (fun _ => ?_) <;> try (exfalso; omega)) | (refine branch_ndec (fun _ => ?_) (fun _ => ?_) <;> try (exfalso; omega)) | refine guard_nbool (fun _ => ?_) (fun _ => ?_) | refine branch_nbool (fun _ => ?_) (fun _ => ?_) | refine guard_bool (fun _ => ?_) (fun _ => ?_) | refine branch_bool (fun _ => ?_) (fun _ => ?_))
              simp only [and_self]
          · repeat' (first | simp (config := { maxSteps := 4000000 }) (disch := first | assumption | (exact Nat.le_refl _) | omega | (simp only [List.length_cons, List.length_nil, List.length_append, push_len, put_len, len_app] <;> omega) | (simp (disch := (first | assumption | omega | (exact (push_len _ _).symm) | (simp only [push_len, put_len, len_app]; omega) | (refine Nat.le_antisymm ?_ ?_ <;> simp only [push_len, put_len, len_app] <;> omega) | fail)) only [get_push_last, get_push_eq, get_push_ne, get_put_eq, get_put_ne, get_app] <;> first | assumption | rfl) | (simp only [canApp_push, canApp_put]; assumption) | (exact start_round _ _) | (simp only [st_round, dfr_round, pn_round]; first | assumption | exact start_round _ _) | fail) only [goS, plainEv, resultsEv, resultListEv, reduceIte, Nat.reduceEqDiff, Option.map_some, Option.map_none, Option.bind_some, List.map_cons, List.map_nil, List.getD_cons_zero, List.getD_cons_succ, List.getElem?_toArray, List.getElem?_cons_zero, List.getElem?_cons_succ, eq_self, beq_self_eq_true, goH, List.append_nil, List.nil_append, res44, fa26_4, row5_4, index_list, load_row_agg, row5_all, build24, store26_4, *] | (refine guard_dec (fun _ => ?_) (fun _ => ?_) <;> try (exfalso; omega)) | (refine guard_ndec (fun _ => ?_) (fun _ => ?_) <;> try (exfalso; omega)) | (refine branch_dec (fun _ => ?_) (fun _ => ?_) <;> try (exfalso; omega)) | (refine branch_ndec (fun _ => ?_) (fun _ => ?_) <;> try (exfalso; omega)) | refine guard_nbool (fun _ => ?_) (fun _ => ?_) | refine branch_nbool (fun _ => ?_) (fun _ => ?_) | refine guard_bool (fun _ => ?_) (fun _ => ?_) | refine branch_bool (fun _ => ?_) (fun _ => ?_))
            have e3l := (List.getElem?_eq_some_iff.1 e3).1
            refine ⟨l.length - (i + 1), by omega, i + 1, .free h4.tn, 5, rowsR ++ [row5 (resE o y).kind (resE o y).n (resE o y).no (resE o y).name tok4 sz4 rows4], by omega, rfl, (by first | trivial | (simp; done) | (simp; omega)), (by first | trivial | (simp; done) | (simp; omega)), (by first | trivial | (simp; done) | (simp; omega)), (by first | trivial | (simp; done) | (simp; omega)), (by first | trivial | (simp; done) | (simp; omega)), (by first | trivial | (simp; done) | (simp; omega)), ?_, ?_, ?_, ?_, ?_, .inl rfl, ?_, ?_⟩
            · rw [put_other (by omega), app_boxes]; exact e1
            · rw [put_other (by omega), app_boxes]; exact e2
            · exact put_this (by rw [app_boxes]; exact e3l)
            · obtain ⟨hj, rfl⟩ := List.getElem?_eq_some_iff.1 hy
              rw [resL_map, List.take_succ_eq_append_getElem hj, List.map_append, ← resL_map]
              exact Pol.Rows.snoc khrr.out khr4.out
            · exact (kca.out.ext kx4.out).next (kx4.out.ok kok'.out) (kx.out.trans kx4.out).tn
            · exact ((kx.out.trans kx4.out).app (kca.out.ext kx4.out)).put_new (by omega) _
            · exact (Mut.app (b := 0) (kca.out.ext kx4.out)).ok (kx4.out.ok kok'.out)
        · have hie : i = l.length := by omega
          subst hie
          have hlt3 : ¬ ((l.length : Int) < (rows.length : Int)) := by rw [hlen]; omega
          rw [List.take_length] at khrr
          have e2l := (List.getElem?_eq_some_iff.1 hb2).1
          repeat' (first | simp (config := { maxSteps := 4000000 }) (disch := first | assumption | (exact Nat.le_refl _) | omega | (simp only [List.length_cons, List.length_nil, List.length_append, push_len, put_len, len_app] <;> omega) | (simp (disch := (first | assumption | omega | (exact (push_len _ _).symm) | (simp only [push_len, put_len, len_app]; omega) | (refine Nat.le_antisymm ?_ ?_ <;> simp only [push_len, put_len, len_app] <;> omega) | fail)) only [get_push_last, get_push_eq, get_push_ne, get_put_eq, get_put_ne, get_app] <;> first | assumption | rfl) | (simp only [canApp_push, canApp_put]; assumption) | (exact start_round _ _) | (simp only [st_round, dfr_round, pn_round]; first | assumption | exact start_round _ _) | fail) only [goS, plainEv, resultsEv, resultListEv, reduceIte, Nat.reduceEqDiff, Option.map_some, Option.map_none, Option.bind_some, List.map_cons, List.map_nil, List.getD_cons_zero, List.getD_cons_succ, List.getElem?_toArray, List.getElem?_cons_zero, List.getElem?_cons_succ, eq_self, beq_self_eq_true, goH, List.append_nil, List.nil_append, res44, row5_4, fa26_4, load26, store26, *] | (refine guard_dec (fun _ => ?_) (fun _ => ?_) <;> try (exfalso; omega)) | (refine guard_ndec (fun _ => ?_) (fun _ => ?_) <;> try (exfalso; omega)) | (refine branch_dec (fun _ => ?_) (fun _ => ?_) <;> try (exfalso; omega)) | (refine branch_ndec (fun _ => ?_) (fun _ => ?_) <;> try (exfalso; omega)) | refine guard_nbool (fun _ => ?_) (fun _ => ?_) | refine branch_nbool (fun _ => ?_) (fun _ => ?_) | refine guard_bool (fun _ => ?_) (fun _ => ?_) | refine branch_bool (fun _ => ?_) (fun _ => ?_))
          refine ⟨_, _, rfl, tokR, szR, rowsR, rfl, kx.out.put_new (by omega) _, ?_⟩
          refine .mk _ _ _ _ _ _ _ _ khrr.out.1 (fun i hi => ?_) (by rw [resL_map, List.length_map]; exact hbd) khrr.out.2
          rcases ksr.out with q | ⟨q, -⟩
          · exact q
          · exfalso; have := khrr.out.1; rw [q] at this; simp at this; omega
      · refine ⟨0, .nil, 0, [], Nat.zero_le _, rfl, ?_, ?_, ?_, ?_, ?_, ?_, ?_, ?_, ?_, ?_, .inl rfl, .inr ⟨rfl, rfl⟩, ((Ext.push _ _).trans (.push _ _)).trans (.push _ _), kok.out⟩
        iterate 6
          · simp only [goS, plainEv, resultsEv, resultListEv, reduceIte, Nat.reduceEqDiff, Option.map_some, Option.map_none, Option.bind_some, List.map_cons, List.map_nil, List.getD_cons_zero, List.getD_cons_succ, List.getElem?_toArray, List.getElem?_cons_zero, List.getElem?_cons_succ, eq_self, beq_self_eq_true, goH] <;> rfl
        · simp (disch := (first | assumption | omega | (exact (push_len _ _).symm) | (simp only [push_len, put_len, len_app]; omega) | (refine Nat.le_antisymm ?_ ?_ <;> simp only [push_len, put_len, len_app] <;> omega) | fail)) only [get_push_last, get_push_eq, get_push_ne, get_put_eq, get_put_ne, get_app]
        · simp (disch := (first | assumption | omega | (exact (push_len _ _).symm) | (simp only [push_len, put_len, len_app]; omega) | (refine Nat.le_antisymm ?_ ?_ <;> simp only [push_len, put_len, len_app] <;> omega) | fail)) only [get_push_last, get_push_eq, get_push_ne, get_put_eq, get_put_ne, get_app]
        · simp (disch := (first | assumption | omega | (exact (push_len _ _).symm) | (simp only [push_len, put_len, len_app]; omega) | (refine Nat.le_antisymm ?_ ?_ <;> simp only [push_len, put_len, len_app] <;> omega) | fail)) only [get_push_last, get_push_eq, get_push_ne, get_put_eq, get_put_ne, get_app]
        · rw [List.take_zero, resL_map]; exact Pol.Rows.nil
end Go.Proofs.YtilmhlbjjfgeoaaDoor
end

section
namespace Go.Proofs.YtilmhlbjjfgeoaaDoor
open Go.AE Go.Lex Go.Pol
/-! ### resolve, of the program -/
theorem put_push_ne {h : Heap} {z cs : List AV} {b : Nat} (hb : b ≠ h.boxes.length) : (h.push z).put b cs = (h.put b cs).push z := by
  unfold Heap.push Heap.put
  simp only
  congr 1
  rcases Nat.lt_or_ge b h.boxes.length with hlt | hge
  · rw [List.set_append_left _ _ hlt]
  · rw [List.set_append_right _ _ hge, List.set_eq_of_length_le (by simp; omega), List.set_eq_of_length_le hge]
theorem put_put {h : Heap} {x y : List AV} {b : Nat} : (h.put b x).put b y = h.put b y := by
  unfold Heap.put
  simp
theorem strsOf_strs (l : List (List UInt8)) : strsOf (strs l) = some l := by
  induction l with
  | nil => rfl
  | cons s l ih => show strsOf ([.v (.string (bs s))] :: strs l) = _; rw [strsOf, ih]; rfl
theorem rowsOf_strs (h : Heap) (k : Tok) (sz : Nat) (l : List (List UInt8)) (hz : ∀ i : Nat, i < l.length → sz = 1) : rowsOf h 1 (.list k sz (strs l)) = some (strs l) := by
  unfold rowsOf
  simp only
  rw [if_pos]
  cases l with
  | nil => right; rfl
  | cons s l => left; exact hz 0 (by simp)
theorem index_ev (k : Tok) (sz : Nat) (l : List (List UInt8)) (s : List UInt8) (hz : ∀ i : Nat, i < l.length → sz = 1) (hl : l.length ≤ 9223372036854775807) (h : Heap) : W.call 60 [.list k sz (strs l), .v (.string (bs s))] h = some (.ret (.v (.int .i64 (idx l s))), h) := by
  rw [whole_call]
  show (pIndexStr [.list k sz (strs l), .v (.string (bs s))] h).map _ = _
  unfold pIndexStr
  simp only [rowsOf_strs h k sz l hz, strsOf_strs, strs_len, if_pos hl, Option.map_some]
  rfl
theorem contains_ev (k : Tok) (sz : Nat) (l : List (List UInt8)) (s : List UInt8) (hz : ∀ i : Nat, i < l.length → sz = 1) (hl : l.length ≤ 9223372036854775807) (h : Heap) : W.call 59 [.list k sz (strs l), .v (.string (bs s))] h = some (.ret (.v (.bool (Lib.containsS (l.map bs) (bs s)))), h) := by
  rw [whole_call]
  show (pContainsStr [.list k sz (strs l), .v (.string (bs s))] h).map _ = _
  unfold pContainsStr
  simp only [rowsOf_strs h k sz l hz, strsOf_strs, strs_len, if_pos hl, Option.map_some]
theorem res40 : Tryd.f40.results.toList = [.cell 4 26] := by kernel_rfl
set_option maxHeartbeats 8000000 in
set_option maxRecDepth 100000 in
theorem resolve_ev (tk : Tok) (so : Nat) (o : List (List UInt8)) (hz : ∀ i : Nat, i < o.length → so = 1) (hl : o.length ≤ 9223372036854775807) : ∀ (x : Ex) (tok : Tok) (sz : Nat) (rows : List (List AV)), Row x (row5 x.kind x.n x.no x.name tok sz rows) → cnt x ≤ 1000 → ∀ h, okHeap h = true →
    GivesEx W 40 [.list tk so (strs o), .agg (row5 x.kind x.n x.no x.name tok sz rows)] h (resE o x) := by
  intro x
  induction x using Ex.ind with
  | h kk nn no name l ih =>
    intro tok sz rows hrow hcn h hok
    obtain ⟨hrows, hsz, hbd⟩ := Row.got hrow
    have ux := Tryd.underlying24
    have a3 := ag3; have a9 := ag9; have a24 := ag24; have a26 := ag26; have s26 := sz26; have s3 := sz3; have s24 := sz24; have z26 := zc26
    have hlen := hrows.1
    simp only [Ex.kind, Ex.n, Ex.no, Ex.name, Ex.l] at hrows hsz hlen hbd ⊢
    have kr := Keep.mk hrows
    have kz := Keep.mk hsz
    have kih := Keep.mk ih
    have kcn := Keep.mk hcn
    have kok := Keep.mk hok
    have hix := fun h => index_ev tk so o name hz hl h
    have hnm : ∀ h : Heap, W.call 58 [.agg (row5 kk nn 0 name tok sz rows)] h = some (.ret (.v (.bool (decide (kk = 1) || decide (kk = 2)))), h.push (row5 kk nn 0 name tok sz rows)) := isNamed_ev (.mk kk nn 0 name l) (row5 kk nn 0 name tok sz rows) (.mk _ _ _ _ _ _ _ _ hrows.1 hsz hbd hrows.2)
    --have rl : ∀ (k n no : Int) (s : List UInt8) (tok : Tok) (sz : Nat) (rows : List (List AV)), (row5 k n no s tok sz rows).length = 5 := fun _ _ _ _ _ _ _ => rfl
    --have rc : ∀ (k n no : Int) (s : List UInt8) (tok : Tok) (sz : Nat) (rows : List (List AV)), (AV.agg (row5 k n no s tok sz rows)).cellsO = some (row5 k n no s tok sz rows) := fun _ _ _ _ _ _ _ => rfl
    clear hrows hsz ih hz
    rw [resE]
    suffices hs : ∃ r h', W.call 40 [.list tk so (strs o), .agg (row5 kk nn no name tok sz rows)] h = some (r, h') ∧ (∃ tok' sz' rows', r = .ret (.agg (row5 kk nn (if kk = 1 ∨ kk = 2 then idx o name else 0) name tok' sz' rows')) ∧ Ext h h' ∧ Row (.mk kk nn (if kk = 1 ∨ kk = 2 then idx o name else 0) name (resL o l)) (row5 kk nn (if kk = 1 ∨ kk = 2 then idx o name else 0) name tok' sz' rows')) by
      obtain ⟨r, h', q1, tok', sz', rows', rfl, q2, q3⟩ := hs
      exact ⟨tok', sz', rows', h', q1, q2, q3⟩
    obtain ⟨N, hN⟩ : ∃ N, N = if kk = 1 ∨ kk = 2 then idx o name else 0 := ⟨_, rfl⟩
    rw [← hN]
    have hix2 : (kk = 1 ∨ kk = 2) → ∀ h : Heap, W.call 60 [.list tk so (strs o), .v (.string (bs name))] h = some (.ret (.v (.int .i64 N)), h) := by
      intro q
      rw [if_pos q] at hN
      rw [hN]
      exact hix
    have hcase : (decide (kk = 1) = true ∧ decide (kk = 2) = false ∧ ∀ h : Heap, W.call 60 [.list tk so (strs o), .v (.string (bs name))] h = some (.ret (.v (.int .i64 N)), h)) ∨ (decide (kk = 1) = false ∧ decide (kk = 2) = true ∧ ∀ h : Heap, W.call 60 [.list tk so (strs o), .v (.string (bs name))] h = some (.ret (.v (.int .i64 N)), h)) ∨ (decide (kk = 1) = false ∧ decide (kk = 2) = false ∧ True) := by
      by_cases q1 : kk = 1
      · exact .inl ⟨by simp [q1], by simp [q1], hix2 (.inl q1)⟩
      · by_cases q2 : kk = 2
        · exact .inr (.inl ⟨by simp [q1], by simp [q2], hix2 (.inr q2)⟩)
        · exact .inr (.inr ⟨by simp [q1], by simp [q2], trivial⟩)
    have kz0 := Keep.mk (show decide (kk = 1) = false → decide (kk = 2) = false → N = 0 by
      intro q1 q2
      have q1 : ¬ kk = 1 := by simpa using q1
      have q2 : ¬ kk = 2 := by simpa using q2
      rw [if_neg (fun q => q.elim q1 q2)] at hN
      exact hN)
    clear hix hix2 hN
    refine call_post rfl Tryd.func40 rfl ?_
    rcases hcase with ⟨d1, d2, hix⟩ | ⟨d1, d2, hix⟩ | ⟨d1, d2, hix⟩
    all_goals
      simp only [d1, d2, Bool.true_or, Bool.or_true, Bool.or_false] at hnm
      repeat' (first | simp (config := { maxSteps := 4000000 }) (disch := first | assumption | (exact Nat.le_refl _) | omega | (simp only [List.length_cons, List.length_nil, List.length_append, push_len, put_len, len_app] <;> omega) | (simp (disch := (first | assumption | omega | (exact (push_len _ _).symm) | (simp only [push_len, put_len, len_app]; omega) | (refine Nat.le_antisymm ?_ ?_ <;> simp only [push_len, put_len, len_app] <;> omega) | fail)) only [get_push_last, get_push_eq, get_push_ne, get_put_eq, get_put_ne, get_app] <;> first | assumption | rfl) | (simp only [canApp_push, canApp_put]; assumption) | (exact start_round _ _) | (simp only [st_round, dfr_round, pn_round]; first | assumption | exact start_round _ _) | fail) only [goS, plainEv, resultsEv, resultListEv, reduceIte, Nat.reduceEqDiff, Option.map_some, Option.map_none, Option.bind_some, List.map_cons, List.map_nil, List.getD_cons_zero, List.getD_cons_succ, List.getElem?_toArray, List.getElem?_cons_zero, List.getElem?_cons_succ, eq_self, beq_self_eq_true, goH, List.append_nil, List.nil_append, res40, row5_cells, row5_0, row5_3, row5_4, row5_all, fa26_0, fa26_2, fa26_3, fa26_4, load26, store26, store26_2, store26_4, put_push_eq, put_push_ne, push_len, Bool.true_or, Bool.or_true, Bool.or_false, *] | (refine guard_dec (fun _ => ?_) (fun _ => ?_) <;> try (exfalso; omega)) | (refine guard_ndec (fun _ => ?_) (fun _ => ?_) <;> try (exfalso; omega)) | (refine branch_dec (fun _ => ?_) (fun _ => ?_) <;> try (exfalso; omega)) | (refine branch_ndec (fun _ => ?_) (fun _ => ?_) <;> try (exfalso; omega)) | refine guard_nbool (fun _ => ?_) (fun _ => ?_) | refine branch_nbool (fun _ => ?_) (fun _ => ?_) | refine guard_bool (fun _ => ?_) (fun _ => ?_) | refine branch_bool (fun _ => ?_) (fun _ => ?_))
      try rw [show (row5 kk nn 0 name .nil 0 [] : List AV) = row5 kk nn N name .nil 0 [] from by rw [kz0.out d1 d2]]
      clear hnm hix
      refine run_loop (fun m e h' => ∃ (i : Nat) (tokR : Tok) (szR : Nat) (rowsR : List (List AV)), i ≤ l.length ∧ m = l.length - i ∧ e.get 0 = .list tk so (strs o) ∧ e.get 3 = .ptr (.box h.boxes.length) 0 ∧ e.get 4 = .ptr (.box (h.boxes.length + 1)) 0 ∧ e.get 19 = .list tok sz rows ∧ e.get 20 = .v (.int .i64 (l.length : Nat)) ∧ e.get 21 = .v (.int .i64 i) ∧ e.defers = [] ∧
        h'.boxes[h.boxes.length + 1]? = some (row5 0 0 0 [] .nil 0 []) ∧ h'.boxes[h.boxes.length]? = some (row5 kk nn N name tokR szR rowsR) ∧ Pol.Rows (resL o (l.take i)) rowsR ∧ CanApp h.tn h' tokR ∧ (szR = 5 ∨ (rowsR = [] ∧ tokR = .nil)) ∧ Ext h h' ∧ okHeap h' = true) ?_ l.length _ _ ?_
      · rintro m e h' ⟨i, tokR, szR, rowsR, hi, rfl, g0, g3, g4, g19, g20, g21, hd, hb2, hb3, hrr, hca, hsr, hx, hok'⟩
        have hrl := hrr.1
        have khrr := Keep.mk hrr
        have kx := Keep.mk hx
        have kca := Keep.mk hca
        have ksr := Keep.mk hsr
        have kok' := Keep.mk hok'
        clear hrr hx hca hsr hok'
        by_cases hlt : i < l.length
        · obtain ⟨y, r, hy, hr, hyr⟩ := kr.out.get hlt
          have h5 := kz.out i hlt
          subst h5
          obtain ⟨tk2, sz2, rows2, rfl, -⟩ := Row.five hyr
          have hlt3 : (i : Int) < (rows.length : Int) := by rw [hlen]; omega
          have hlt4 : (i : Int) < (l.length : Int) := by omega
          have hle5 : 5 ≤ ((row5 y.kind y.n y.no y.name tk2 sz2 rows2).drop 0).length := by rw [List.drop_zero]; exact Nat.le_refl _
          have hcy : cnt y ≤ 1000 := by have := cntL_mem (List.mem_of_getElem? hy); have := kcn.out; rw [cnt] at this; omega
          have hll : l.length ≤ 1000 := by have := cntL_len l; have := kcn.out; rw [cnt] at this; omega
          obtain ⟨tok4, sz4, rows4, h4, c4, hx4, hr4⟩ := kih.out y (List.mem_of_getElem? hy) tk2 sz2 rows2 hyr hcy (h'.push (row5 y.kind y.n y.no y.name tk2 sz2 rows2)) kok'.out
          have hrl2 : rowsR.length ≤ 70000 := by rw [hrl, resL_map, List.length_map, List.length_take]; omega
          have kca4 := Keep.mk (kca.out.ext ((Ext.push h' (row5 y.kind y.n y.no y.name tk2 sz2 rows2)).trans hx4))
          have happ := app_ex (h := h4) (r := row5 (resE o y).kind (resE o y).n (resE o y).no (resE o y).name tok4 sz4 rows4) (kca4.out.mono (Nat.zero_le _)) ksr.out hrl2
          have e2 := hx4.box _ _ (push_old hb2)
          have e3 := hx4.box _ _ (push_old hb3)
          have kx4 := Keep.mk ((Ext.push h' (row5 y.kind y.n y.no y.name tk2 sz2 rows2)).trans hx4)
          have khr4 := Keep.mk hr4
          have n1 : h.boxes.length ≠ h'.boxes.length := by have := (List.getElem?_eq_some_iff.1 hb3).1; omega
          have n2 : h.boxes.length + 1 ≠ h'.boxes.length := by have := (List.getElem?_eq_some_iff.1 hb2).1; omega
          clear hx4 hr4
          repeat' (first | simp (config := { maxSteps := 4000000 }) (disch := first | assumption | (exact Nat.le_refl _) | omega | (simp only [List.length_cons, List.length_nil, List.length_append, push_len, put_len, len_app] <;> omega) | (simp (disch := (first | assumption | omega | (exact (push_len _ _).symm) | (simp only [push_len, put_len, len_app]; omega) | (refine Nat.le_antisymm ?_ ?_ <;> simp only [push_len, put_len, len_app] <;> omega) | fail)) only [get_push_last, get_push_eq, get_push_ne, get_put_eq, get_put_ne, get_app] <;> first | assumption | rfl) | (simp only [canApp_push, canApp_put]; assumption) | (exact start_round _ _) | (simp only [st_round, dfr_round, pn_round]; first | assumption | exact start_round _ _) | fail) only [goS, plainEv, resultsEv, resultListEv, reduceIte, Nat.reduceEqDiff, Option.map_some, Option.map_none, Option.bind_some, List.map_cons, List.map_nil, List.getD_cons_zero, List.getD_cons_succ, List.getElem?_toArray, List.getElem?_cons_zero, List.getElem?_cons_succ, eq_self, beq_self_eq_true, goH, List.append_nil, List.nil_append, res40, row5_4, fa26_4, load26, store26, store26_4, index_list, load_row_agg, row5_all, put_push_eq, put_push_ne, push_len, *] | (refine guard_dec (fun _ => ?_) (fun _ => ?_) <;> try (exfalso; omega)) | (refine guard_ndec (fun _ => ?_) (fun _ => ?_) <;> try (exfalso; omega)) | (refine branch_dec (fun _ => ?_) (fun _ => ?_) <;> try (exfalso; omega)) | (refine branch_ndec (fun _ => ?_) (fun _ => ?_) <;> try (exfalso; omega)) | refine guard_nbool (fun _ => ?_) (fun _ => ?_) | refine branch_nbool (fun _ => ?_) (fun _ => ?_) | refine guard_bool (fun _ => ?_) (fun _ => ?_) | refine branch_bool (fun _ => ?_) (fun _ => ?_))
          refine run_draw_but [(1, 4)] (by kernel_rfl) ?_ ?_
          · intro p hp
            simp only [List.mem_singleton] at hp
            subst hp
            refine stable_before (x := .ptr (.box h.boxes.length) 4) (v := .list tokR szR rowsR) (by kernel_rfl) rfl rfl rfl (by kernel_rfl) (by rw [sameAV, sameTok_refl, Rows.same khrr.out]; simp) ?_ ?_
            · simp only [List.take_succ_cons, List.take_zero]
              repeat' (first | simp (config := { maxSteps := 4000000 }) (disch := first | assumption | (exact Nat.le_refl _) | omega | (simp only [List.length_cons, List.length_nil, List.length_append, push_len, put_len, len_app] <;> omega) | (simp (disch := (first | assumption | omega | (exact (push_len _ _).symm) | (simp only [push_len, put_len, len_app]; omega) | (refine Nat.le_antisymm ?_ ?_ <;> simp only [push_len, put_len, len_app] <;> omega) | fail)) only [get_push_last, get_push_eq, get_push_ne, get_put_eq, get_put_ne, get_app] <;> first | assumption | rfl) | (simp only [canApp_push, canApp_put]; assumption) | (exact start_round _ _) | (simp only [st_round, dfr_round, pn_round]; first | assumption | exact start_round _ _) | fail) only [goS, plainEv, resultsEv, resultListEv, reduceIte, Nat.reduceEqDiff, Option.map_some, Option.map_none, Option.bind_some, List.map_cons, List.map_nil, List.getD_cons_zero, List.getD_cons_succ, List.getElem?_toArray, List.getElem?_cons_zero, List.getElem?_cons_succ, eq_self, beq_self_eq_true, goH, List.append_nil, List.nil_append, fa26_4, row5_4, load26, *] | (refine guard_dec (fun _ => ?_) (fun _ => ?_) <;> try (exfalso; omega)) | (refine guard_ndec (fun _ => ?_) (fun _ => ?_) <;> try (exfalso; omega)) | (refine branch_dec (fun _ => ?_) (fun _ => ?_) <;> try (exfalso; omega)) | (refine branch_ndec (fun _ => ?_) (fun _ => ?_) <;> try (exfalso; omega)) | refine guard_nbool (fun _ => ?_) (fun _ => ?_) | refine branch_nbool (fun _ => ?_) (fun _ => ?_) | refine guard_bool (fun _ => ?_) (fun _ => ?_) | refine branch_bool (fun _ => ?_) (fun _ => ?_))
              simp only [and_self]
            · simp only [List.take_succ_cons, List.take_zero]
              repeat' (first | simp (config := { maxSteps := 4000000 }) (disch := first | assumption | (exact Nat.le_refl _) | omega | (simp only [List.length_cons, List.length_nil, List.length_append, push_len, put_len, len_app] <;> omega) | (simp (disch := (first | assumption | omega | (exact (push_len _ _).symm) | (simp only [push_len, put_len, len_app]; omega) | (refine Nat.le_antisymm ?_ ?_ <;> simp only [push_len, put_len, len_app] <;> omega) | fail)) only [get_push_last, get_push_eq, get_push_ne, get_put_eq, get_put_ne, get_app] <;> first | assumption | rfl) | (simp only [canApp_push, canApp_put]; assumption) | (exact start_round _ _) | (simp only [st_round, dfr_round, pn_round]; first | assumption | exact start_round _ _) | fail) only [goS, plainEv, resultsEv, resultListEv, reduceIte, Nat.reduceEqDiff, Option.map_some, Option.map_none, Option.bind_some, List.map_cons, List.map_nil, List.getD_cons_zero, List.getD_cons_succ, List.getElem?_toArray, List.getElem?_cons_zero, List.getElem?_cons_succ, eq_self, beq_self_eq_true, goH, List.append_nil, List.nil_append, fa26_4, row5_4, load26, index_list, load_row_agg, row5_all, *] | (refine guard_dec (fun _ => ?_) (fun _ => ?_) <;> try (exfalso; omega)) | (refine guard_ndec (fun _ => ?_) (fun _ => ?_) <;> try (exfalso; omega)) | (refine branch_dec (fun _ => ?_) (fun _ => ?_) <;> try (exfalso; omega)) | (refine branch_ndec (fun _ => ?_) (fun _ => ?_) <;> try (exfalso; omega)) | refine guard_nbool (fun _ => ?_) (fun _ => ?_) | refine branch_nbool (fun _ => ?_) (fun _ => ?_) | refine guard_bool (fun _ => ?_) (fun _ => ?_) | refine branch_bool (fun _ => ?_) (fun _ => ?_))
              simp only [and_self]
          · repeat' (first | simp (config := { maxSteps := 4000000 }) (disch := first | assumption | (exact Nat.le_refl _) | omega | (simp only [List.length_cons, List.length_nil, List.length_append, push_len, put_len, len_app] <;> omega) | (simp (disch := (first | assumption | omega | (exact (push_len _ _).symm) | (simp only [push_len, put_len, len_app]; omega) | (refine Nat.le_antisymm ?_ ?_ <;> simp only [push_len, put_len, len_app] <;> omega) | fail)) only [get_push_last, get_push_eq, get_push_ne, get_put_eq, get_put_ne, get_app] <;> first | assumption | rfl) | (simp only [canApp_push, canApp_put]; assumption) | (exact start_round _ _) | (simp only [st_round, dfr_round, pn_round]; first | assumption | exact start_round _ _) | fail) only [goS, plainEv, resultsEv, resultListEv, reduceIte, Nat.reduceEqDiff, Option.map_some, Option.map_none, Option.bind_some, List.map_cons, List.map_nil, List.getD_cons_zero, List.getD_cons_succ, List.getElem?_toArray, List.getElem?_cons_zero, List.getElem?_cons_succ, eq_self, beq_self_eq_true, goH, List.append_nil, List.nil_append, res40, fa26_4, row5_4, load26, index_list, load_row_agg, row5_all, build24, store26_4, *] | (refine guard_dec (fun _ => ?_) (fun _ => ?_) <;> try (exfalso; omega)) | (refine guard_ndec (fun _ => ?_) (fun _ => ?_) <;> try (exfalso; omega)) | (refine branch_dec (fun _ => ?_) (fun _ => ?_) <;> try (exfalso; omega)) | (refine branch_ndec (fun _ => ?_) (fun _ => ?_) <;> try (exfalso; omega)) | refine guard_nbool (fun _ => ?_) (fun _ => ?_) | refine branch_nbool (fun _ => ?_) (fun _ => ?_) | refine guard_bool (fun _ => ?_) (fun _ => ?_) | refine branch_bool (fun _ => ?_) (fun _ => ?_))
            have e3l := (List.getElem?_eq_some_iff.1 e3).1
            refine ⟨l.length - (i + 1), by omega, i + 1, .free h4.tn, 5, rowsR ++ [row5 (resE o y).kind (resE o y).n (resE o y).no (resE o y).name tok4 sz4 rows4], by omega, rfl, (by first | trivial | (simp; done) | (simp; omega)), (by first | trivial | (simp; done) | (simp; omega)), (by first | trivial | (simp; done) | (simp; omega)), (by first | trivial | (simp; done) | (simp; omega)), (by first | trivial | (simp; done) | (simp; omega)), (by first | trivial | (simp; done) | (simp; omega)), (by first | trivial | (simp; done) | (simp; omega)), ?_, ?_, ?_, ?_, .inl rfl, ?_, ?_⟩
            · rw [put_other (by omega), app_boxes]; exact e2
            · exact put_this (by rw [app_boxes]; exact e3l)
            · obtain ⟨hj, rfl⟩ := List.getElem?_eq_some_iff.1 hy
              rw [resL_map, List.take_succ_eq_append_getElem hj, List.map_append, ← resL_map]
              exact Pol.Rows.snoc khrr.out khr4.out
            · exact kca4.out.next (kx4.out.ok kok'.out) (kx.out.trans kx4.out).tn
            · exact ((kx.out.trans kx4.out).app kca4.out).put_new (by omega) _
            · exact (Mut.app (b := 0) kca4.out).ok (kx4.out.ok kok'.out)
        · have hie : i = l.length := by omega
          subst hie
          have hlt3 : ¬ ((l.length : Int) < (l.length : Int)) := by omega
          rw [List.take_length] at khrr
          have e2l := (List.getElem?_eq_some_iff.1 hb2).1
          repeat' (first | simp (config := { maxSteps := 4000000 }) (disch := first | assumption | (exact Nat.le_refl _) | omega | (simp only [List.length_cons, List.length_nil, List.length_append, push_len, put_len, len_app] <;> omega) | (simp (disch := (first | assumption | omega | (exact (push_len _ _).symm) | (simp only [push_len, put_len, len_app]; omega) | (refine Nat.le_antisymm ?_ ?_ <;> simp only [push_len, put_len, len_app] <;> omega) | fail)) only [get_push_last, get_push_eq, get_push_ne, get_put_eq, get_put_ne, get_app] <;> first | assumption | rfl) | (simp only [canApp_push, canApp_put]; assumption) | (exact start_round _ _) | (simp only [st_round, dfr_round, pn_round]; first | assumption | exact start_round _ _) | fail) only [goS, plainEv, resultsEv, resultListEv, reduceIte, Nat.reduceEqDiff, Option.map_some, Option.map_none, Option.bind_some, List.map_cons, List.map_nil, List.getD_cons_zero, List.getD_cons_succ, List.getElem?_toArray, List.getElem?_cons_zero, List.getElem?_cons_succ, eq_self, beq_self_eq_true, goH, List.append_nil, List.nil_append, res40, row5_4, fa26_4, load26, store26, *] | (refine guard_dec (fun _ => ?_) (fun _ => ?_) <;> try (exfalso; omega)) | (refine guard_ndec (fun _ => ?_) (fun _ => ?_) <;> try (exfalso; omega)) | (refine branch_dec (fun _ => ?_) (fun _ => ?_) <;> try (exfalso; omega)) | (refine branch_ndec (fun _ => ?_) (fun _ => ?_) <;> try (exfalso; omega)) | refine guard_nbool (fun _ => ?_) (fun _ => ?_) | refine branch_nbool (fun _ => ?_) (fun _ => ?_) | refine guard_bool (fun _ => ?_) (fun _ => ?_) | refine branch_bool (fun _ => ?_) (fun _ => ?_))
          refine ⟨_, _, rfl, tokR, szR, rowsR, rfl, kx.out.put_new (by omega) _, ?_⟩
          refine .mk _ _ _ _ _ _ _ _ khrr.out.1 (fun i hi => ?_) (by rw [resL_map, List.length_map]; exact hbd) khrr.out.2
          rcases ksr.out with q | ⟨q, -⟩
          · exact q
          · exfalso; have := khrr.out.1; rw [q] at this; simp at this; omega
      · refine ⟨0, .nil, 0, [], Nat.zero_le _, rfl, ?_, ?_, ?_, ?_, ?_, ?_, ?_, ?_, ?_, ?_, .inl rfl, .inr ⟨rfl, rfl⟩, ((Ext.push _ _).trans (.push _ _)).trans (.push _ _), kok.out⟩
        iterate 7
          · simp only [goS, plainEv, resultsEv, resultListEv, reduceIte, Nat.reduceEqDiff, Option.map_some, Option.map_none, Option.bind_some, List.map_cons, List.map_nil, List.getD_cons_zero, List.getD_cons_succ, List.getElem?_toArray, List.getElem?_cons_zero, List.getElem?_cons_succ, eq_self, beq_self_eq_true, goH] <;> rfl
        · simp (disch := (first | assumption | omega | (exact (push_len _ _).symm) | (simp only [push_len, put_len, len_app]; omega) | (refine Nat.le_antisymm ?_ ?_ <;> simp only [push_len, put_len, len_app] <;> omega) | fail)) only [get_push_last, get_push_eq, get_push_ne, get_put_eq, get_put_ne, get_app]
        · simp (disch := (first | assumption | omega | (exact (push_len _ _).symm) | (simp only [push_len, put_len, len_app]; omega) | (refine Nat.le_antisymm ?_ ?_ <;> simp only [push_len, put_len, len_app] <;> omega) | fail)) only [get_push_last, get_push_eq, get_push_ne, get_put_eq, get_put_ne, get_app]
        · rw [List.take_zero, resL_map]; exact Pol.Rows.nil
end Go.Proofs.YtilmhlbjjfgeoaaDoor
end

section
namespace Go.Proofs.YtilmhlbjjfgeoaaDoor
open Go.AE Go.Lex Go.Pol
/-! ### Policies and rules in memory: loads, stores, appends -/
def zP : Po := ⟨[], [], [], [], .mk 0 0 0 [] [], 0⟩
def zT : PT := ⟨.nil, 0, .nil, 0, .nil, 0, [], .nil, 0, []⟩
def zR : Rl := ⟨[], 0, 0, .mk 0 0 0 [] []⟩
theorem zc28 : (zeroA Tryd.prog 28).bind AV.cellsO = some (prow zP zT) := by kernel_rfl
theorem zc43' : (zeroA Tryd.prog 43).bind AV.cellsO = some (rrow zR .nil 0 []) := by kernel_rfl
theorem build28 : buildEv Tryd.prog 28 [] = some (.agg (prow zP zT)) := by kernel_rfl
theorem zRow : Row (.mk 0 0 0 [] []) (row5 0 0 0 [] .nil 0 []) := .mk _ _ _ _ _ _ _ _ rfl (fun i hi => absurd hi (Nat.not_lt_zero i)) (Nat.zero_le _) (fun i x r h => by simp at h)
theorem zOk : POk zP zT := ⟨RRows.nil, zRow, fun i hi => absurd hi (Nat.not_lt_zero i), fun i hi => absurd hi (Nat.not_lt_zero i), fun i hi => absurd hi (Nat.not_lt_zero i), Nat.zero_le _, Nat.zero_le _, Nat.zero_le _⟩
section
variable {h : Heap} {b : Nat} {k n no : Int} {s : List UInt8} {x x' : Rl} {p p' : Po} {t t' : PT} {e : Ex} {tok tok' : Tok} {sz sz' : Nat} {rows rows' : List (List AV)} {i : Int}
theorem load43 (hb : h.boxes[b]? = some (rrow x tok sz rows)) : loadEv Tryd.prog Gk h 43 (.ptr (.box b) 0) = some (.agg (rrow x tok sz rows)) := load_agg ag43 sz43 hb (Nat.le_refl _)
theorem load43_3 (hb : h.boxes[b]? = some (rrow x tok sz rows)) : loadEv Tryd.prog Gk h 26 (.ptr (.box b) 3) = some (.agg (r5 x tok sz rows)) := load_agg ag26 sz26 hb (show 3 + 5 ≤ 8 by omega)
theorem load28 (hb : h.boxes[b]? = some (prow p t)) : loadEv Tryd.prog Gk h 28 (.ptr (.box b) 0) = some (.agg (prow p t)) := load_agg ag28 sz28 hb (Nat.le_refl _)
theorem load28_4 (hb : h.boxes[b]? = some (prow p t)) : loadEv Tryd.prog Gk h 26 (.ptr (.box b) 4) = some (.agg (p5 p t)) := load_agg ag26 sz26 hb (show 4 + 5 ≤ 10 by omega)
theorem store43 (hb : h.boxes[b]? = some (rrow x tok sz rows)) : storeEv Tryd.prog h 43 (.ptr (.box b) 0) (.agg (rrow x' tok' sz' rows')) = some (h.put b (rrow x' tok' sz' rows')) := store_box (off := 0) (cs := rrow x tok sz rows) (xs := rrow x' tok' sz' rows') rfl sz43 hb rfl (Nat.le_refl 8)
theorem store43_1 (hb : h.boxes[b]? = some (rrow x tok sz rows)) : storeEv Tryd.prog h 3 (.ptr (.box b) 1) (.v (.int .i64 i)) = some (h.put b (rrow { x with kindNo := i } tok sz rows)) := store_box (off := 1) (cs := rrow x tok sz rows) (xs := [.v (.int .i64 i)]) rfl sz3 hb rfl (show 1 + 1 ≤ 8 by omega)
theorem store43_3 (hb : h.boxes[b]? = some (rrow x tok sz rows)) : storeEv Tryd.prog h 26 (.ptr (.box b) 3) (.agg (row5 e.kind e.n e.no e.name tok' sz' rows')) = some (h.put b (rrow { x with expr := e } tok' sz' rows')) := store_box (off := 3) (cs := rrow x tok sz rows) (xs := row5 e.kind e.n e.no e.name tok' sz' rows') rfl sz26 hb rfl (show 3 + 5 ≤ 8 by omega)
theorem store28 (hb : h.boxes[b]? = some (prow p t)) : storeEv Tryd.prog h 28 (.ptr (.box b) 0) (.agg (prow p' t')) = some (h.put b (prow p' t')) := store_box (off := 0) (cs := prow p t) (xs := prow p' t') rfl sz28 hb rfl (Nat.le_refl 10)
theorem store28_3 (hb : h.boxes[b]? = some (prow p t)) : storeEv Tryd.prog h 23 (.ptr (.box b) 3) (.list tok' sz' rows') = some (h.put b (prow p { t with tr := tok', sr := sz', rr := rows' })) := store_box (off := 3) (cs := prow p t) (xs := [.list tok' sz' rows']) rfl sz23 hb rfl (show 3 + 1 ≤ 10 by omega)
theorem store28_4 (hb : h.boxes[b]? = some (prow p t)) : storeEv Tryd.prog h 26 (.ptr (.box b) 4) (.agg (row5 e.kind e.n e.no e.name tok' sz' rows')) = some (h.put b (prow { p with change := e } { t with tok := tok', sz := sz', rows := rows' })) := store_box (off := 4) (cs := prow p t) (xs := row5 e.kind e.n e.no e.name tok' sz' rows') rfl sz26 hb rfl (show 4 + 5 ≤ 10 by omega)
theorem app_rule (hk : CanApp 0 h tok) (hs : sz = 8 ∨ (rows = [] ∧ tok = .nil)) (hl : rows.length ≤ 70000) {r : List AV} :
    appendEv Tryd.prog h #[23, 23] (.list tok sz rows) (.list .tight 8 [r]) = some (.list (.free h.tn) 8 (rows ++ [r]), h.app tok) := by
  have hi : (Tryd.prog.info? 43).map (fun i => (i.bytes, i.size, i.zero.map fun z => z.cells.size)) = some (96, 8, some 8) := by kernel_rfl
  cases hq : Tryd.prog.info? 43 with
  | none => rw [hq] at hi; cases hi
  | some i =>
    rw [hq] at hi
    simp only [Option.map_some, Option.some.injEq, Prod.mk.injEq] at hi
    obtain ⟨i1, i2, i3⟩ := hi
    have := append_rows (k' := .tight) (new := [r]) (es := rows) Tryd.underlying23 Tryd.underlying23 hq (by omega) (by rw [i3, i2]) (by simp) (by rw [i1]; simp only [List.length_singleton]; omega) (by simp only [List.length_singleton]; omega)
      (by rw [i2]; exact hs) hk
    rw [i2] at this
    exact this
theorem build23 : buildSliceEv Tryd.prog 23 1 [(0, .agg (rrow x tok sz rows))] = some (.list .tight 8 [rrow x tok sz rows]) := by kernel_rfl
end
/-! ### Resolve, of the reference -/
noncomputable def resR (o : List (List UInt8)) (l : List Rl) : List Rl := l.mapIdx fun i x => { x with kindNo := (i : Int), expr := resE o x.expr }
noncomputable def resP (p : Po) : Po := { p with rules := resR p.offices p.rules, change := resE p.offices p.change }
noncomputable def resolveF (p : Po) : Po × Int := if smallP p = false then (zP, 2) else if namesP p = false then (zP, 201) else if formedP p = false then (zP, 200) else (resP p, 0)
theorem resR_snoc (o : List (List UInt8)) (l : List Rl) (x : Rl) : resR o (l ++ [x]) = resR o l ++ [{ x with kindNo := (l.length : Int), expr := resE o x.expr }] := by
  unfold resR
  rw [List.mapIdx_append]
  simp
/-- What a policy must be, so that it may be resolved here. -/
structure PFew (p : Po) : Prop where
  c : cnt p.change ≤ 1000
  r : ∀ x ∈ p.rules, cnt x.expr ≤ 1000
  l : p.rules.length ≤ 1000
def GivesPo (R : Rec) (g : FuncId) (args : List AV) (h : Heap) (q : Po) (e : Int) : Prop := ∃ t h', R.call g args h = some (.ret (.tuple [.agg (prow q t), .v (.int .i64 e)]), h') ∧ Ext h h' ∧ POk q t
theorem resP_ok {p : Po} {t : PT} (ok : POk p t) {tokR tok4 : Tok} {szR sz4 : Nat} {rowsR rows4 : List (List AV)} (h1 : RRows (resR p.offices p.rules) rowsR) (h2 : Row (resE p.offices p.change) (row5 (resE p.offices p.change).kind (resE p.offices p.change).n (resE p.offices p.change).no (resE p.offices p.change).name tok4 sz4 rows4)) (h3 : szR = 8 ∨ (rowsR = [] ∧ tokR = .nil)) :
    POk (resP p) { t with tr := tokR, sr := szR, rr := rowsR, tok := tok4, sz := sz4, rows := rows4 } := by
  have hl : (resR p.offices p.rules).length = p.rules.length := by simp [resR]
  refine ⟨h1, h2, ok.zk, ok.zo, fun i hi => ?_, ok.bk, ok.bo, ?_⟩
  · rcases h3 with q | ⟨q, -⟩
    · exact q
    · exfalso
      have := h1.1
      rw [q] at this
      have hi : i < (resR p.offices p.rules).length := hi
      simp at this
      omega
  · show (resR p.offices p.rules).length ≤ _
    rw [hl]; exact ok.br
theorem res12 : Tryd.f12.results.toList = [.cell 2 28, .tmp 3] := by kernel_rfl
set_option maxHeartbeats 16000000 in
set_option maxRecDepth 100000 in
theorem refResolve_ev (p : Po) (t : PT) (ok : POk p t) (few : PFew p) (h : Heap) (hok : okHeap h = true) : GivesPo W 12 [.agg (prow p t)] h (resolveF p).1 (resolveF p).2 := by
  have u23 := Tryd.underlying23
  have a3 := ag3; have a9 := ag9; have a22 := ag22; have a23 := ag23; have a24 := ag24; have a26 := ag26; have a28 := ag28; have a43 := ag43; have s26 := sz26; have s28 := sz28; have s43 := sz43; have s3 := sz3; have z28 := zc28; have z43 := zc43'
  have hlen := ok.rules.1
  have kok := Keep.mk ok
  have kfew := Keep.mk few
  have kokh := Keep.mk hok
  have kx0 := Keep.mk ((Ext.push h (prow p t)).trans (.push _ (prow zP zT)))
  suffices hs : ∃ r h', W.call 12 [.agg (prow p t)] h = some (r, h') ∧ (∃ q e t', (q, e) = resolveF p ∧ r = .ret (.tuple [.agg (prow q t'), .v (.int .i64 e)]) ∧ Ext h h' ∧ POk q t') by
    obtain ⟨r, h', q1, q, e, t', q2, rfl, q3, q4⟩ := hs
    rw [← q2]
    exact ⟨t', h', q1, q3, q4⟩
  obtain ⟨h2, c2, hx2⟩ := tooLarge_ev p t ok few.c few.r ((h.push (prow p t)).push (prow zP zT))
  obtain ⟨h3, c3, hx3⟩ := refNames_ev p t ok h2
  obtain ⟨h4, c4, hx4⟩ := refFormed_ev p t ok h3
  have b1 := hx2.box h.boxes.length (prow p t) (push_old (push_last h _))
  have b2 := hx2.box (h.boxes.length + 1) (prow zP zT) (by have := push_last (h.push (prow p t)) (prow zP zT); rw [push_len] at this; exact this)
  have b3 := hx3.box _ _ b1
  have b4 := hx3.box _ _ b2
  have b5 := hx4.box _ _ b3
  have b6 := hx4.box _ _ b4
  have k2 := Keep.mk (kx0.out.trans hx2)
  have k3 := Keep.mk ((kx0.out.trans hx2).trans hx3)
  have k4 := Keep.mk (((kx0.out.trans hx2).trans hx3).trans hx4)
  have ln2 := (List.getElem?_eq_some_iff.1 b2).1
  have ln3 := (List.getElem?_eq_some_iff.1 b4).1
  have ln4 := (List.getElem?_eq_some_iff.1 b6).1
  clear hx2 hx3 hx4 few hok
  refine call_post rfl Tryd.func12 rfl ?_
  cases hsm : smallP p with
  | false =>
    rw [hsm] at c2
    repeat' (first | simp (config := { maxSteps := 4000000 }) (disch := first | assumption | (exact Nat.le_refl _) | omega | (simp only [List.length_cons, List.length_nil, List.length_append, push_len, put_len, len_app] <;> omega) | (simp (disch := (first | assumption | omega | (exact (push_len _ _).symm) | (simp only [push_len, put_len, len_app]; omega) | (refine Nat.le_antisymm ?_ ?_ <;> simp only [push_len, put_len, len_app] <;> omega) | fail)) only [get_push_last, get_push_eq, get_push_ne, get_put_eq, get_put_ne, get_app] <;> first | assumption | rfl) | (simp only [canApp_push, canApp_put]; assumption) | (exact start_round _ _) | (simp only [st_round, dfr_round, pn_round]; first | assumption | exact start_round _ _) | fail) only [goS, plainEv, resultsEv, resultListEv, reduceIte, Nat.reduceEqDiff, Option.map_some, Option.map_none, Option.bind_some, List.map_cons, List.map_nil, List.getD_cons_zero, List.getD_cons_succ, List.getElem?_toArray, List.getElem?_cons_zero, List.getElem?_cons_succ, eq_self, beq_self_eq_true, goH, List.append_nil, List.nil_append, res12, fp28, fp43, prs, rrs, load28, store28, store28_3, push_len, build28, put_push_eq, put_push_ne, *] | (refine guard_dec (fun _ => ?_) (fun _ => ?_) <;> try (exfalso; omega)) | (refine guard_ndec (fun _ => ?_) (fun _ => ?_) <;> try (exfalso; omega)) | (refine branch_dec (fun _ => ?_) (fun _ => ?_) <;> try (exfalso; omega)) | (refine branch_ndec (fun _ => ?_) (fun _ => ?_) <;> try (exfalso; omega)) | refine guard_nbool (fun _ => ?_) (fun _ => ?_) | refine branch_nbool (fun _ => ?_) (fun _ => ?_) | refine guard_bool (fun _ => ?_) (fun _ => ?_) | refine branch_bool (fun _ => ?_) (fun _ => ?_))
    all_goals exact ⟨_, _, rfl, zP, 2, zT, by simp [resolveF, hsm], rfl, k2.out.put_new (b := h.boxes.length + 1) (by omega) _, zOk⟩
  | true =>
    cases hnm : namesP p with
    | false =>
      rw [hsm] at c2
      rw [hnm] at c3
      repeat' (first | simp (config := { maxSteps := 4000000 }) (disch := first | assumption | (exact Nat.le_refl _) | omega | (simp only [List.length_cons, List.length_nil, List.length_append, push_len, put_len, len_app] <;> omega) | (simp (disch := (first | assumption | omega | (exact (push_len _ _).symm) | (simp only [push_len, put_len, len_app]; omega) | (refine Nat.le_antisymm ?_ ?_ <;> simp only [push_len, put_len, len_app] <;> omega) | fail)) only [get_push_last, get_push_eq, get_push_ne, get_put_eq, get_put_ne, get_app] <;> first | assumption | rfl) | (simp only [canApp_push, canApp_put]; assumption) | (exact start_round _ _) | (simp only [st_round, dfr_round, pn_round]; first | assumption | exact start_round _ _) | fail) only [goS, plainEv, resultsEv, resultListEv, reduceIte, Nat.reduceEqDiff, Option.map_some, Option.map_none, Option.bind_some, List.map_cons, List.map_nil, List.getD_cons_zero, List.getD_cons_succ, List.getElem?_toArray, List.getElem?_cons_zero, List.getElem?_cons_succ, eq_self, beq_self_eq_true, goH, List.append_nil, List.nil_append, res12, fp28, fp43, prs, rrs, load28, store28, store28_3, push_len, build28, put_push_eq, put_push_ne, *] | (refine guard_dec (fun _ => ?_) (fun _ => ?_) <;> try (exfalso; omega)) | (refine guard_ndec (fun _ => ?_) (fun _ => ?_) <;> try (exfalso; omega)) | (refine branch_dec (fun _ => ?_) (fun _ => ?_) <;> try (exfalso; omega)) | (refine branch_ndec (fun _ => ?_) (fun _ => ?_) <;> try (exfalso; omega)) | refine guard_nbool (fun _ => ?_) (fun _ => ?_) | refine branch_nbool (fun _ => ?_) (fun _ => ?_) | refine guard_bool (fun _ => ?_) (fun _ => ?_) | refine branch_bool (fun _ => ?_) (fun _ => ?_))
      all_goals exact ⟨_, _, rfl, zP, 201, zT, by simp [resolveF, hsm, hnm], rfl, k3.out.put_new (b := h.boxes.length + 1) (by omega) _, zOk⟩
    | true =>
      cases hfm : formedP p with
      | false =>
        rw [hsm] at c2
        rw [hnm] at c3
        rw [hfm] at c4
        repeat' (first | simp (config := { maxSteps := 4000000 }) (disch := first | assumption | (exact Nat.le_refl _) | omega | (simp only [List.length_cons, List.length_nil, List.length_append, push_len, put_len, len_app] <;> omega) | (simp (disch := (first | assumption | omega | (exact (push_len _ _).symm) | (simp only [push_len, put_len, len_app]; omega) | (refine Nat.le_antisymm ?_ ?_ <;> simp only [push_len, put_len, len_app] <;> omega) | fail)) only [get_push_last, get_push_eq, get_push_ne, get_put_eq, get_put_ne, get_app] <;> first | assumption | rfl) | (simp only [canApp_push, canApp_put]; assumption) | (exact start_round _ _) | (simp only [st_round, dfr_round, pn_round]; first | assumption | exact start_round _ _) | fail) only [goS, plainEv, resultsEv, resultListEv, reduceIte, Nat.reduceEqDiff, Option.map_some, Option.map_none, Option.bind_some, List.map_cons, List.map_nil, List.getD_cons_zero, List.getD_cons_succ, List.getElem?_toArray, List.getElem?_cons_zero, List.getElem?_cons_succ, eq_self, beq_self_eq_true, goH, List.append_nil, List.nil_append, res12, fp28, fp43, prs, rrs, load28, store28, store28_3, push_len, build28, put_push_eq, put_push_ne, *] | (refine guard_dec (fun _ => ?_) (fun _ => ?_) <;> try (exfalso; omega)) | (refine guard_ndec (fun _ => ?_) (fun _ => ?_) <;> try (exfalso; omega)) | (refine branch_dec (fun _ => ?_) (fun _ => ?_) <;> try (exfalso; omega)) | (refine branch_ndec (fun _ => ?_) (fun _ => ?_) <;> try (exfalso; omega)) | refine guard_nbool (fun _ => ?_) (fun _ => ?_) | refine branch_nbool (fun _ => ?_) (fun _ => ?_) | refine guard_bool (fun _ => ?_) (fun _ => ?_) | refine branch_bool (fun _ => ?_) (fun _ => ?_))
        all_goals exact ⟨_, _, rfl, zP, 200, zT, by simp [resolveF, hsm, hnm, hfm], rfl, k4.out.put_new (b := h.boxes.length + 1) (by omega) _, zOk⟩
      | true =>
        rw [hsm] at c2
        rw [hnm] at c3
        rw [hfm] at c4
        repeat' (first | simp (config := { maxSteps := 4000000 }) (disch := first | assumption | (exact Nat.le_refl _) | omega | (simp only [List.length_cons, List.length_nil, List.length_append, push_len, put_len, len_app] <;> omega) | (simp (disch := (first | assumption | omega | (exact (push_len _ _).symm) | (simp only [push_len, put_len, len_app]; omega) | (refine Nat.le_antisymm ?_ ?_ <;> simp only [push_len, put_len, len_app] <;> omega) | fail)) only [get_push_last, get_push_eq, get_push_ne, get_put_eq, get_put_ne, get_app] <;> first | assumption | rfl) | (simp only [canApp_push, canApp_put]; assumption) | (exact start_round _ _) | (simp only [st_round, dfr_round, pn_round]; first | assumption | exact start_round _ _) | fail) only [goS, plainEv, resultsEv, resultListEv, reduceIte, Nat.reduceEqDiff, Option.map_some, Option.map_none, Option.bind_some, List.map_cons, List.map_nil, List.getD_cons_zero, List.getD_cons_succ, List.getElem?_toArray, List.getElem?_cons_zero, List.getElem?_cons_succ, eq_self, beq_self_eq_true, goH, List.append_nil, List.nil_append, res12, fp28, fp43, prs, rrs, load28, store28, store28_3, push_len, build28, put_push_eq, put_push_ne, *] | (refine guard_dec (fun _ => ?_) (fun _ => ?_) <;> try (exfalso; omega)) | (refine guard_ndec (fun _ => ?_) (fun _ => ?_) <;> try (exfalso; omega)) | (refine branch_dec (fun _ => ?_) (fun _ => ?_) <;> try (exfalso; omega)) | (refine branch_ndec (fun _ => ?_) (fun _ => ?_) <;> try (exfalso; omega)) | refine guard_nbool (fun _ => ?_) (fun _ => ?_) | refine branch_nbool (fun _ => ?_) (fun _ => ?_) | refine guard_bool (fun _ => ?_) (fun _ => ?_) | refine branch_bool (fun _ => ?_) (fun _ => ?_))
        refine run_loop (fun m e h' => ∃ (i : Nat) (tokR : Tok) (szR : Nat) (rowsR : List (List AV)), i ≤ p.rules.length ∧ m = p.rules.length - i ∧ e.get 1 = .ptr (.box h.boxes.length) 0 ∧ e.get 2 = .ptr (.box (h.boxes.length + 1)) 0 ∧ e.get 4 = .ptr (.box h4.boxes.length) 0 ∧ e.get 5 = .v (.int .i64 i) ∧ e.defers = [] ∧
          h'.boxes[h.boxes.length]? = some (prow p t) ∧ h'.boxes[h.boxes.length + 1]? = some (prow zP zT) ∧ h'.boxes[h4.boxes.length]? = some (prow p { t with tr := tokR, sr := szR, rr := rowsR }) ∧ RRows (resR p.offices (p.rules.take i)) rowsR ∧ CanApp h.tn h' tokR ∧ (szR = 8 ∨ (rowsR = [] ∧ tokR = .nil)) ∧ Ext h h' ∧ okHeap h' = true) ?_ p.rules.length _ _ ?_
        · rintro m e h' ⟨i, tokR, szR, rowsR, hi, rfl, g1, g2, g4, g5, hd, hb1, hb2, hb3, hrr, hca, hsr, hx, hok'⟩
          have hrl := hrr.1
          have khrr := Keep.mk hrr
          have kx := Keep.mk hx
          have kca := Keep.mk hca
          have ksr := Keep.mk hsr
          have kok' := Keep.mk hok'
          clear hrr hx hca hsr hok' c2 c3 c4 b1 b2 b3 b4 b5 b6
          have n3 := (List.getElem?_eq_some_iff.1 hb3).1
          have n1 := (List.getElem?_eq_some_iff.1 hb1).1
          have n2 := (List.getElem?_eq_some_iff.1 hb2).1
          by_cases hlt : i < p.rules.length
          · obtain ⟨y, tk2, sz2, rows2, hy, hr, hyr⟩ := RRows.get kok.out.rules hlt
            have h8 := kok.out.zr i hlt
            have hlt3 : (i : Int) < (t.rr.length : Int) := by rw [hlen]; omega
            have rf8 := @rrow_fit8 y tk2 sz2 rows2
            have hbr := kok.out.br
            have hll := kfew.out.l
            obtain ⟨tok4, sz4, rows4, h5, c5, hx5, hr5⟩ := refResolved_ev t.to t.so p.offices kok.out.zo kok.out.bo y.expr tk2 sz2 rows2 hyr (kfew.out.r y (List.mem_of_getElem? hy)) (h'.push (rrow { y with kindNo := (i : Int) } tk2 sz2 rows2)) kok'.out
            have e1 := hx5.box _ _ (push_old hb1)
            have e2 := hx5.box _ _ (push_old hb2)
            have e3 := hx5.box _ _ (push_old hb3)
            have e4 := hx5.box _ _ (push_last h' (rrow { y with kindNo := (i : Int) } tk2 sz2 rows2))
            have kx5 := Keep.mk ((Ext.push h' (rrow { y with kindNo := (i : Int) } tk2 sz2 rows2)).trans hx5)
            have khr5 := Keep.mk hr5
            have kca5 := Keep.mk (kca.out.ext kx5.out)
            have hrl2 : rowsR.length ≤ 70000 := by rw [hrl]; simp [resR]; omega
            have happ : ∀ (q : List AV) (cs : List AV), appendEv Tryd.prog (h5.put h'.boxes.length cs) #[23, 23] (.list tokR szR rowsR) (.list .tight 8 [q]) = some (.list (.free h5.tn) 8 (rowsR ++ [q]), (h5.put h'.boxes.length cs).app tokR) := fun q cs => app_rule (h := h5.put h'.boxes.length cs) (kca5.out.mono (Nat.zero_le _)) ksr.out hrl2
            have le4 := (List.getElem?_eq_some_iff.1 e4).1
            have le3 := (List.getElem?_eq_some_iff.1 e3).1
            clear hx5 hr5
            repeat' (first | simp (config := { maxSteps := 4000000 }) (disch := first | assumption | (exact Nat.le_refl _) | omega | (simp only [List.length_cons, List.length_nil, List.length_append, push_len, put_len, len_app] <;> omega) | (simp (disch := (first | assumption | omega | (exact (push_len _ _).symm) | (simp only [push_len, put_len, len_app]; omega) | (refine Nat.le_antisymm ?_ ?_ <;> simp only [push_len, put_len, len_app] <;> omega) | fail)) only [get_push_last, get_push_eq, get_push_ne, get_put_eq, get_put_ne, get_app] <;> first | assumption | rfl) | (simp only [canApp_push, canApp_put]; assumption) | (exact start_round _ _) | (simp only [st_round, dfr_round, pn_round]; first | assumption | exact start_round _ _) | fail) only [goS, plainEv, resultsEv, resultListEv, reduceIte, Nat.reduceEqDiff, Option.map_some, Option.map_none, Option.bind_some, List.map_cons, List.map_nil, List.getD_cons_zero, List.getD_cons_succ, List.getElem?_toArray, List.getElem?_cons_zero, List.getElem?_cons_succ, eq_self, beq_self_eq_true, goH, List.append_nil, List.nil_append, res12, fp28, fp43, prs, rrs, load28, store28, store28_3, load43, load43_3, store43, store43_1, store43_3, index_list, load_row_agg, build23, push_len, put_push_eq, put_push_ne, put_put, r5, *] | (refine guard_dec (fun _ => ?_) (fun _ => ?_) <;> try (exfalso; omega)) | (refine guard_ndec (fun _ => ?_) (fun _ => ?_) <;> try (exfalso; omega)) | (refine branch_dec (fun _ => ?_) (fun _ => ?_) <;> try (exfalso; omega)) | (refine branch_ndec (fun _ => ?_) (fun _ => ?_) <;> try (exfalso; omega)) | refine guard_nbool (fun _ => ?_) (fun _ => ?_) | refine branch_nbool (fun _ => ?_) (fun _ => ?_) | refine guard_bool (fun _ => ?_) (fun _ => ?_) | refine branch_bool (fun _ => ?_) (fun _ => ?_))
            refine ⟨p.rules.length - (i + 1), by omega, i + 1, .free h5.tn, 8, rowsR ++ [rrow { y with kindNo := (i : Int), expr := resE p.offices y.expr } tok4 sz4 rows4], by omega, rfl, (by first | trivial | (simp; done) | (simp; omega)), (by first | trivial | (simp; done) | (simp; omega)), (by first | trivial | (simp; done) | (simp; omega)), (by first | trivial | (simp; done) | (simp; omega)), (by first | trivial | (simp; done) | (simp; omega)), ?_, ?_, ?_, ?_, ?_, .inl rfl, ?_, ?_⟩
            · rw [put_other (by omega), app_boxes, put_other (by omega)]; exact e1
            · rw [put_other (by omega), app_boxes, put_other (by omega)]; exact e2
            · exact put_this (by rw [app_boxes, put_len]; exact le3)
            · obtain ⟨hj, rfl⟩ := List.getElem?_eq_some_iff.1 hy
              rw [List.take_succ_eq_append_getElem hj, resR_snoc, List.length_take, Nat.min_eq_left (by omega)]
              exact RRows.snoc khrr.out (RRow.mk khr5.out)
            · exact kca5.out.next (h := h5.put h'.boxes.length _) (kx5.out.ok kok'.out) (kx.out.trans kx5.out).tn
            · exact (((kx.out.trans kx5.out).put_new (by omega) _).app (h := h5.put h'.boxes.length _) kca5.out).put_new (by omega) _
            · exact (Mut.app (b := 0) (h := h5.put h'.boxes.length _) kca5.out).ok (kx5.out.ok kok'.out)
          · have hie : i = p.rules.length := by omega
            subst hie
            have hlt3 : ¬ ((p.rules.length : Int) < (t.rr.length : Int)) := by rw [hlen]; omega
            rw [List.take_length] at khrr
            obtain ⟨tok4, sz4, rows4, h5, c5, hx5, hr5⟩ := refResolved_ev t.to t.so p.offices kok.out.zo kok.out.bo p.change t.tok t.sz t.rows kok.out.expr kfew.out.c h' kok'.out
            have e1 := hx5.box _ _ hb1
            have e2 := hx5.box _ _ hb2
            have e3 := hx5.box _ _ hb3
            have kx5 := Keep.mk hx5
            have khr5 := Keep.mk hr5
            have le2 := (List.getElem?_eq_some_iff.1 e2).1
            have le3 := (List.getElem?_eq_some_iff.1 e3).1
            clear hx5 hr5
            repeat' (first | simp (config := { maxSteps := 4000000 }) (disch := first | assumption | (exact Nat.le_refl _) | omega | (simp only [List.length_cons, List.length_nil, List.length_append, push_len, put_len, len_app] <;> omega) | (simp (disch := (first | assumption | omega | (exact (push_len _ _).symm) | (simp only [push_len, put_len, len_app]; omega) | (refine Nat.le_antisymm ?_ ?_ <;> simp only [push_len, put_len, len_app] <;> omega) | fail)) only [get_push_last, get_push_eq, get_push_ne, get_put_eq, get_put_ne, get_app] <;> first | assumption | rfl) | (simp only [canApp_push, canApp_put]; assumption) | (exact start_round _ _) | (simp only [st_round, dfr_round, pn_round]; first | assumption | exact start_round _ _) | fail) only [goS, plainEv, resultsEv, resultListEv, reduceIte, Nat.reduceEqDiff, Option.map_some, Option.map_none, Option.bind_some, List.map_cons, List.map_nil, List.getD_cons_zero, List.getD_cons_succ, List.getElem?_toArray, List.getElem?_cons_zero, List.getElem?_cons_succ, eq_self, beq_self_eq_true, goH, List.append_nil, List.nil_append, res12, fp28, fp43, prs, rrs, load28, load28_4, store28, store28_3, store28_4, push_len, put_put, p5, *] | (refine guard_dec (fun _ => ?_) (fun _ => ?_) <;> try (exfalso; omega)) | (refine guard_ndec (fun _ => ?_) (fun _ => ?_) <;> try (exfalso; omega)) | (refine branch_dec (fun _ => ?_) (fun _ => ?_) <;> try (exfalso; omega)) | (refine branch_ndec (fun _ => ?_) (fun _ => ?_) <;> try (exfalso; omega)) | refine guard_nbool (fun _ => ?_) (fun _ => ?_) | refine branch_nbool (fun _ => ?_) (fun _ => ?_) | refine guard_bool (fun _ => ?_) (fun _ => ?_) | refine branch_bool (fun _ => ?_) (fun _ => ?_))
            refine ⟨_, _, rfl, resP p, 0, { t with tr := tokR, sr := szR, rr := rowsR, tok := tok4, sz := sz4, rows := rows4 }, by simp [resolveF, hsm, hnm, hfm], rfl, ((kx.out.trans kx5.out).put_new (b := h4.boxes.length) (by omega) _).put_new (b := h.boxes.length + 1) (by omega) _, ?_⟩
            exact resP_ok kok.out khrr.out khr5.out ksr.out
        · refine ⟨0, .nil, 0, [], Nat.zero_le _, rfl, ?_, ?_, ?_, ?_, ?_, ?_, ?_, ?_, ?_, ?_, .inr ⟨rfl, rfl⟩, k4.out.trans (.push _ _), ?_⟩
          iterate 5
            · simp only [goS, plainEv, resultsEv, resultListEv, reduceIte, Nat.reduceEqDiff, Option.map_some, Option.map_none, Option.bind_some, List.map_cons, List.map_nil, List.getD_cons_zero, List.getD_cons_succ, List.getElem?_toArray, List.getElem?_cons_zero, List.getElem?_cons_succ, eq_self, beq_self_eq_true, goH] <;> rfl
          · simp (disch := (first | assumption | omega | (exact (push_len _ _).symm) | (simp only [push_len, put_len, len_app]; omega) | (refine Nat.le_antisymm ?_ ?_ <;> simp only [push_len, put_len, len_app] <;> omega) | fail)) only [get_push_last, get_push_eq, get_push_ne, get_put_eq, get_put_ne, get_app]; exact b5
          · simp (disch := (first | assumption | omega | (exact (push_len _ _).symm) | (simp only [push_len, put_len, len_app]; omega) | (refine Nat.le_antisymm ?_ ?_ <;> simp only [push_len, put_len, len_app] <;> omega) | fail)) only [get_push_last, get_push_eq, get_push_ne, get_put_eq, get_put_ne, get_app]; exact b6
          · simp (disch := (first | assumption | omega | (exact (push_len _ _).symm) | (simp only [push_len, put_len, len_app]; omega) | (refine Nat.le_antisymm ?_ ?_ <;> simp only [push_len, put_len, len_app] <;> omega) | fail)) only [get_push_last, get_push_eq, get_push_ne, get_put_eq, get_put_ne, get_app]
          · exact RRows.nil
          · exact .inl rfl
          · exact k4.out.ok kokh.out
end Go.Proofs.YtilmhlbjjfgeoaaDoor
end

section
namespace Go.Proofs.YtilmhlbjjfgeoaaDoor
open Go.AE Go.Lex Go.Pol
/-! ### Same -/
noncomputable def sameP (p q : Po) : Bool := @decide (p = q) (Classical.propDecidable _)
theorem sameP_iff {p q : Po} : sameP p q = true ↔ p = q := by unfold sameP; exact @decide_eq_true_iff _ (Classical.propDecidable _)
theorem sameP_no {p q : Po} (h : p ≠ q) : sameP p q = false := by
  rw [Bool.eq_false_iff]
  exact fun e => h (sameP_iff.1 e)
theorem rl_ext {x y : Rl} (h1 : x.kind = y.kind) (h2 : x.kindNo = y.kindNo) (h3 : x.think = y.think) (h4 : x.expr = y.expr) : x = y := by cases x; cases y; simp_all
theorem po_ext {p q : Po} (h1 : p.name = q.name) (h2 : p.mode = q.mode) (h3 : p.offices = q.offices) (h4 : p.kinds = q.kinds) (h5 : p.rules = q.rules) (h6 : p.change = q.change) : p = q := by cases p; cases q; simp_all
theorem res13 : Tryd.f13.results.toList = [.tmp 4] := by kernel_rfl
set_option maxHeartbeats 16000000 in
set_option maxRecDepth 100000 in
theorem same_ev (p q : Po) (t u : PT) (ok : POk p t) (ok2 : POk q u) (h : Heap) : Says W 13 [.agg (prow p t), .agg (prow q u)] h (.ret (.v (.bool (sameP p q)))) := by
  have u9 := Tryd.underlying9; have u23 := Tryd.underlying23
  have a3 := ag3; have a9 := ag9; have a22 := ag22; have a23 := ag23; have a24 := ag24; have a26 := ag26; have a28 := ag28; have a43 := ag43; have s26 := sz26; have s28 := sz28; have s43 := sz43; have z43 := zc43'
  have hlen := ok.rules.1
  have hlen2 := ok2.rules.1
  have kok := Keep.mk ok
  have kok2 := Keep.mk ok2
  have kx0 := Keep.mk ((Ext.push h (prow p t)).trans (.push _ (prow q u)))
  have c1 := sameTexts_ev t.to u.to t.so u.so p.offices q.offices ok.zo ok2.zo ok.bo ((h.push (prow p t)).push (prow q u))
  have c2 := sameTexts_ev t.tk u.tk t.sk u.sk p.kinds q.kinds ok.zk ok2.zk ok.bk ((h.push (prow p t)).push (prow q u))
  obtain ⟨h2, c3, hx2⟩ := sameE_ev p.change _ ok.expr q.change _ ok2.expr ((h.push (prow p t)).push (prow q u))
  have k2 := Keep.mk (kx0.out.trans hx2)
  have b1 := hx2.box h.boxes.length (prow p t) (push_old (push_last h _))
  have b2 := hx2.box (h.boxes.length + 1) (prow q u) (by have := push_last (h.push (prow p t)) (prow q u); rw [push_len] at this; exact this)
  clear hx2
  have hll : ((t.rr.length : Int) = (u.rr.length : Int)) = (p.rules.length = q.rules.length) := by rw [hlen, hlen2]; exact propext ⟨fun e => by omega, fun e => by omega⟩
  refine call_ex rfl Tryd.func13 rfl ?_
  by_cases hgood : p.name = q.name ∧ p.mode = q.mode ∧ p.offices = q.offices ∧ p.kinds = q.kinds ∧ p.rules.length = q.rules.length ∧ p.change = q.change
  · have kg := Keep.mk hgood
    have d1 : decide (p.name = q.name) = true := decide_eq_true hgood.1
    have d2 : decide (p.mode = q.mode) = true := decide_eq_true hgood.2.1
    have d3 : decide (p.offices = q.offices) = true := decide_eq_true hgood.2.2.1
    have d4 : decide (p.kinds = q.kinds) = true := decide_eq_true hgood.2.2.2.1
    have d5 : decide ((t.rr.length : Int) = (u.rr.length : Int)) = true := decide_eq_true (by rw [hll]; exact hgood.2.2.2.2.1)
    have d5' : decide ((p.rules.length : Int) = (q.rules.length : Int)) = true := decide_eq_true (by have := hgood.2.2.2.2.1; omega)
    have d6 : sameE p.change q.change = true := sameE_iff.2 hgood.2.2.2.2.2
    clear hgood hll
    rw [d3] at c1
    rw [d4] at c2
    rw [d6] at c3
    repeat' (first | simp (config := { maxSteps := 4000000 }) (disch := first | assumption | (exact Nat.le_refl _) | omega | (simp only [List.length_cons, List.length_nil, List.length_append, push_len, put_len, len_app] <;> omega) | (simp (disch := (first | assumption | omega | (exact (push_len _ _).symm) | (simp only [push_len, put_len, len_app]; omega) | (refine Nat.le_antisymm ?_ ?_ <;> simp only [push_len, put_len, len_app] <;> omega) | fail)) only [get_push_last, get_push_eq, get_push_ne, get_put_eq, get_put_ne, get_app] <;> first | assumption | rfl) | (simp only [canApp_push, canApp_put]; assumption) | (exact start_round _ _) | (simp only [st_round, dfr_round, pn_round]; first | assumption | exact start_round _ _) | fail) only [goS, plainEv, resultsEv, resultListEv, reduceIte, Nat.reduceEqDiff, Option.map_some, Option.map_none, Option.bind_some, List.map_cons, List.map_nil, List.getD_cons_zero, List.getD_cons_succ, List.getElem?_toArray, List.getElem?_cons_zero, List.getElem?_cons_succ, eq_self, beq_self_eq_true, goH, List.append_nil, List.nil_append, res13, fp28, fp43, prs, rrs, strs_len, load28, load28_4, push_len, *] | (refine guard_dec (fun _ => ?_) (fun _ => ?_) <;> try (exfalso; omega)) | (refine guard_ndec (fun _ => ?_) (fun _ => ?_) <;> try (exfalso; omega)) | (refine branch_dec (fun _ => ?_) (fun _ => ?_) <;> try (exfalso; omega)) | (refine branch_ndec (fun _ => ?_) (fun _ => ?_) <;> try (exfalso; omega)) | refine guard_nbool (fun _ => ?_) (fun _ => ?_) | refine branch_nbool (fun _ => ?_) (fun _ => ?_) | refine guard_bool (fun _ => ?_) (fun _ => ?_) | refine branch_bool (fun _ => ?_) (fun _ => ?_))
    refine run_loop (fun m e h' => ∃ (i : Nat), i ≤ p.rules.length ∧ m = p.rules.length - i ∧ e.get 2 = .ptr (.box h.boxes.length) 0 ∧ e.get 3 = .ptr (.box (h.boxes.length + 1)) 0 ∧ e.get 5 = .v (.int .i64 i) ∧ e.defers = [] ∧ Ext h h' ∧ h'.boxes[h.boxes.length]? = some (prow p t) ∧ h'.boxes[h.boxes.length + 1]? = some (prow q u) ∧ ∀ j, j < i → p.rules[j]? = q.rules[j]?) ?_ p.rules.length _ _ ?_
    · rintro m e h' ⟨i, hi, rfl, g2, g3, g5, hd, hx, hb1, hb2, hno⟩
      have kx := Keep.mk hx
      have kno := Keep.mk hno
      clear hx hno c1 c2 c3 b1 b2 d1 d2 d3 d4 d5 d5' d6
      have n1 := (List.getElem?_eq_some_iff.1 hb1).1
      have n2 := (List.getElem?_eq_some_iff.1 hb2).1
      by_cases hlt : i < p.rules.length
      · obtain ⟨y, tok, sz, rows, hy, hr, hyr⟩ := RRows.get kok.out.rules hlt
        obtain ⟨z, tok', sz', rows', hz, hr', hzr⟩ := RRows.get kok2.out.rules (show i < q.rules.length by have := kg.out.2.2.2.2.1; omega)
        have h8 := kok.out.zr i hlt
        have h8' := kok2.out.zr i (show i < q.rules.length by have := kg.out.2.2.2.2.1; omega)
        have hlt3 : (i : Int) < (t.rr.length : Int) := by rw [hlen]; omega
        have hlt4 : (i : Int) < (u.rr.length : Int) := by rw [hlen2]; have := kg.out.2.2.2.2.1; omega
        have rf8 := @rrow_fit8 y tok sz rows
        have rf8' := @rrow_fit8 z tok' sz' rows'
        have hbr := kok.out.br
        obtain ⟨h4, c4, hx4⟩ := sameE_ev y.expr _ hyr z.expr _ hzr ((h'.push (rrow y tok sz rows)).push (rrow z tok' sz' rows'))
        have kx4 := Keep.mk (((Ext.push h' (rrow y tok sz rows)).trans (.push _ (rrow z tok' sz' rows'))).trans hx4)
        have kx5 := Keep.mk ((Ext.push h' (rrow y tok sz rows)).trans (.push _ (rrow z tok' sz' rows')))
        have kb1 := Keep.mk hb1
        have kb2 := Keep.mk hb2
        clear hx4
        by_cases hgd : y.kind = z.kind ∧ y.kindNo = z.kindNo ∧ y.think = z.think ∧ y.expr = z.expr
        · have kgd := Keep.mk hgd
          have d1 : decide (y.kind = z.kind) = true := decide_eq_true hgd.1
          have d2 : decide (y.kindNo = z.kindNo) = true := decide_eq_true hgd.2.1
          have d3 : decide (y.think = z.think) = true := decide_eq_true hgd.2.2.1
          have d4 : sameE y.expr z.expr = true := sameE_iff.2 hgd.2.2.2
          rw [d4] at c4
          clear hgd
          repeat' (first | simp (config := { maxSteps := 4000000 }) (disch := first | assumption | (exact Nat.le_refl _) | omega | (simp only [List.length_cons, List.length_nil, List.length_append, push_len, put_len, len_app] <;> omega) | (simp (disch := (first | assumption | omega | (exact (push_len _ _).symm) | (simp only [push_len, put_len, len_app]; omega) | (refine Nat.le_antisymm ?_ ?_ <;> simp only [push_len, put_len, len_app] <;> omega) | fail)) only [get_push_last, get_push_eq, get_push_ne, get_put_eq, get_put_ne, get_app] <;> first | assumption | rfl) | (simp only [canApp_push, canApp_put]; assumption) | (exact start_round _ _) | (simp only [st_round, dfr_round, pn_round]; first | assumption | exact start_round _ _) | fail) only [goS, plainEv, resultsEv, resultListEv, reduceIte, Nat.reduceEqDiff, Option.map_some, Option.map_none, Option.bind_some, List.map_cons, List.map_nil, List.getD_cons_zero, List.getD_cons_succ, List.getElem?_toArray, List.getElem?_cons_zero, List.getElem?_cons_succ, eq_self, beq_self_eq_true, goH, List.append_nil, List.nil_append, res13, fp28, fp43, prs, rrs, load43, load43_3, store43, index_list, load_row_agg, push_len, put_push_eq, put_push_ne, *] | (refine guard_dec (fun _ => ?_) (fun _ => ?_) <;> try (exfalso; omega)) | (refine guard_ndec (fun _ => ?_) (fun _ => ?_) <;> try (exfalso; omega)) | (refine branch_dec (fun _ => ?_) (fun _ => ?_) <;> try (exfalso; omega)) | (refine branch_ndec (fun _ => ?_) (fun _ => ?_) <;> try (exfalso; omega)) | refine guard_nbool (fun _ => ?_) (fun _ => ?_) | refine branch_nbool (fun _ => ?_) (fun _ => ?_) | refine guard_bool (fun _ => ?_) (fun _ => ?_) | refine branch_bool (fun _ => ?_) (fun _ => ?_))
          refine ⟨p.rules.length - (i + 1), by omega, i + 1, by omega, rfl, (by first | trivial | (simp; done) | (simp; omega)), (by first | trivial | (simp; done) | (simp; omega)), (by first | trivial | (simp; done) | (simp; omega)), (by first | trivial | (simp; done) | (simp; omega)), kx.out.trans kx4.out, kx4.out.box _ _ kb1.out, kx4.out.box _ _ kb2.out, fun j hj => ?_⟩
          rcases Nat.lt_or_ge j i with w | w
          · exact kno.out j w
          · have : j = i := by omega
            subst this
            rw [hy, hz, rl_ext kgd.out.1 kgd.out.2.1 kgd.out.2.2.1 kgd.out.2.2.2]
        · have kgd := Keep.mk hgd
          have hne : p ≠ q := by
            intro e
            subst e
            rw [hy] at hz
            injection hz with hz
            subst hz
            exact hgd ⟨rfl, rfl, rfl, rfl⟩
          have kne := Keep.mk hne
          clear hgd hne
          repeat' (first | simp (config := { maxSteps := 4000000 }) (disch := first | assumption | (exact Nat.le_refl _) | omega | (simp only [List.length_cons, List.length_nil, List.length_append, push_len, put_len, len_app] <;> omega) | (simp (disch := (first | assumption | omega | (exact (push_len _ _).symm) | (simp only [push_len, put_len, len_app]; omega) | (refine Nat.le_antisymm ?_ ?_ <;> simp only [push_len, put_len, len_app] <;> omega) | fail)) only [get_push_last, get_push_eq, get_push_ne, get_put_eq, get_put_ne, get_app] <;> first | assumption | rfl) | (simp only [canApp_push, canApp_put]; assumption) | (exact start_round _ _) | (simp only [st_round, dfr_round, pn_round]; first | assumption | exact start_round _ _) | fail) only [goS, plainEv, resultsEv, resultListEv, reduceIte, Nat.reduceEqDiff, Option.map_some, Option.map_none, Option.bind_some, List.map_cons, List.map_nil, List.getD_cons_zero, List.getD_cons_succ, List.getElem?_toArray, List.getElem?_cons_zero, List.getElem?_cons_succ, eq_self, beq_self_eq_true, goH, List.append_nil, List.nil_append, res13, fp28, fp43, prs, rrs, load43, load43_3, store43, index_list, load_row_agg, push_len, put_push_eq, put_push_ne, *] | (refine guard_dec (fun _ => ?_) (fun _ => ?_) <;> try (exfalso; omega)) | (refine guard_ndec (fun _ => ?_) (fun _ => ?_) <;> try (exfalso; omega)) | (refine branch_dec (fun _ => ?_) (fun _ => ?_) <;> try (exfalso; omega)) | (refine branch_ndec (fun _ => ?_) (fun _ => ?_) <;> try (exfalso; omega)) | refine guard_nbool (fun _ => ?_) (fun _ => ?_) | refine branch_nbool (fun _ => ?_) (fun _ => ?_) | refine guard_bool (fun _ => ?_) (fun _ => ?_) | refine branch_bool (fun _ => ?_) (fun _ => ?_))
          all_goals first
            | (refine answerY (sameP_no kne.out).symm ?_; first | exact kx.out.trans kx4.out | exact kx.out.trans kx5.out)
            | (exfalso; refine kgd.out ⟨?_, ?_, ?_, ?_⟩ <;> first | assumption | (refine sameE_iff.1 ?_; assumption))
      · have hie : i = p.rules.length := by omega
        subst hie
        have hlt3 : ¬ ((p.rules.length : Int) < (t.rr.length : Int)) := by rw [hlen]; omega
        repeat' (first | simp (config := { maxSteps := 4000000 }) (disch := first | assumption | (exact Nat.le_refl _) | omega | (simp only [List.length_cons, List.length_nil, List.length_append, push_len, put_len, len_app] <;> omega) | (simp (disch := (first | assumption | omega | (exact (push_len _ _).symm) | (simp only [push_len, put_len, len_app]; omega) | (refine Nat.le_antisymm ?_ ?_ <;> simp only [push_len, put_len, len_app] <;> omega) | fail)) only [get_push_last, get_push_eq, get_push_ne, get_put_eq, get_put_ne, get_app] <;> first | assumption | rfl) | (simp only [canApp_push, canApp_put]; assumption) | (exact start_round _ _) | (simp only [st_round, dfr_round, pn_round]; first | assumption | exact start_round _ _) | fail) only [goS, plainEv, resultsEv, resultListEv, reduceIte, Nat.reduceEqDiff, Option.map_some, Option.map_none, Option.bind_some, List.map_cons, List.map_nil, List.getD_cons_zero, List.getD_cons_succ, List.getElem?_toArray, List.getElem?_cons_zero, List.getElem?_cons_succ, eq_self, beq_self_eq_true, goH, List.append_nil, List.nil_append, res13, fp28, fp43, prs, *] | (refine guard_dec (fun _ => ?_) (fun _ => ?_) <;> try (exfalso; omega)) | (refine guard_ndec (fun _ => ?_) (fun _ => ?_) <;> try (exfalso; omega)) | (refine branch_dec (fun _ => ?_) (fun _ => ?_) <;> try (exfalso; omega)) | (refine branch_ndec (fun _ => ?_) (fun _ => ?_) <;> try (exfalso; omega)) | refine guard_nbool (fun _ => ?_) (fun _ => ?_) | refine branch_nbool (fun _ => ?_) (fun _ => ?_) | refine guard_bool (fun _ => ?_) (fun _ => ?_) | refine branch_bool (fun _ => ?_) (fun _ => ?_))
        refine answerY ?_ kx.out
        symm
        refine sameP_iff.2 (po_ext kg.out.1 kg.out.2.1 kg.out.2.2.1 kg.out.2.2.2.1 ?_ kg.out.2.2.2.2.2)
        refine List.ext_getElem? fun j => ?_
        rcases Nat.lt_or_ge j p.rules.length with w | w
        · exact kno.out j w
        · rw [List.getElem?_eq_none w, List.getElem?_eq_none (by have := kg.out.2.2.2.2.1; omega)]
    · refine ⟨0, Nat.zero_le _, rfl, ?_, ?_, ?_, ?_, k2.out, b1, b2, fun j hj => absurd hj (Nat.not_lt_zero j)⟩ <;> simp only [goS, plainEv, resultsEv, resultListEv, reduceIte, Nat.reduceEqDiff, Option.map_some, Option.map_none, Option.bind_some, List.map_cons, List.map_nil, List.getD_cons_zero, List.getD_cons_succ, List.getElem?_toArray, List.getElem?_cons_zero, List.getElem?_cons_succ, eq_self, beq_self_eq_true, goH, push_len] <;> rfl
  · have hne : p ≠ q := fun e => hgood (by subst e; exact ⟨rfl, rfl, rfl, rfl, rfl, rfl⟩)
    have kne := Keep.mk hne
    have kbad := Keep.mk hgood
    have khll := Keep.mk hll
    clear hgood hne hll
    repeat' (first | simp (config := { maxSteps := 4000000 }) (disch := first | assumption | (exact Nat.le_refl _) | omega | (simp only [List.length_cons, List.length_nil, List.length_append, push_len, put_len, len_app] <;> omega) | (simp (disch := (first | assumption | omega | (exact (push_len _ _).symm) | (simp only [push_len, put_len, len_app]; omega) | (refine Nat.le_antisymm ?_ ?_ <;> simp only [push_len, put_len, len_app] <;> omega) | fail)) only [get_push_last, get_push_eq, get_push_ne, get_put_eq, get_put_ne, get_app] <;> first | assumption | rfl) | (simp only [canApp_push, canApp_put]; assumption) | (exact start_round _ _) | (simp only [st_round, dfr_round, pn_round]; first | assumption | exact start_round _ _) | fail) only [goS, plainEv, resultsEv, resultListEv, reduceIte, Nat.reduceEqDiff, Option.map_some, Option.map_none, Option.bind_some, List.map_cons, List.map_nil, List.getD_cons_zero, List.getD_cons_succ, List.getElem?_toArray, List.getElem?_cons_zero, List.getElem?_cons_succ, eq_self, beq_self_eq_true, goH, List.append_nil, List.nil_append, res13, fp28, fp43, prs, rrs, strs_len, load28, load28_4, push_len, *] | (refine guard_dec (fun _ => ?_) (fun _ => ?_) <;> try (exfalso; omega)) | (refine guard_ndec (fun _ => ?_) (fun _ => ?_) <;> try (exfalso; omega)) | (refine branch_dec (fun _ => ?_) (fun _ => ?_) <;> try (exfalso; omega)) | (refine branch_ndec (fun _ => ?_) (fun _ => ?_) <;> try (exfalso; omega)) | refine guard_nbool (fun _ => ?_) (fun _ => ?_) | refine branch_nbool (fun _ => ?_) (fun _ => ?_) | refine guard_bool (fun _ => ?_) (fun _ => ?_) | refine branch_bool (fun _ => ?_) (fun _ => ?_))
    all_goals first
      | (refine answerY (sameP_no kne.out).symm ?_; first | exact k2.out | exact kx0.out)
      | (exfalso; refine kbad.out ⟨?_, ?_, ?_, ?_, ?_, ?_⟩ <;> first | assumption | (refine sameE_iff.1 ?_; assumption) | omega | (rw [← khll.out]; assumption) | simp_all)
end Go.Proofs.YtilmhlbjjfgeoaaDoor
end
