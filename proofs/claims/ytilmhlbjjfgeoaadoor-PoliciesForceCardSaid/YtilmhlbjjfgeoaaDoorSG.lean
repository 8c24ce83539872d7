/-
  Part of the proof: SG.
-/
import Derived.Test.YtilmhlbjjfgeoaaDoorSF
import Derived.Test.YtilmhlbjjfgeoaaDoorE4
import Derived.Test.YtilmhlbjjfgeoaaDoorSE
set_option linter.unusedSimpArgs false
set_option linter.unusedVariables false
set_option linter.constructorNameAsVariable false
section
namespace Go.Proofs.YtilmhlbjjfgeoaaDoor
open Go.AE Go.Lex Go.Pol
/-! ### The table of kinds -/
theorem res96 : Tryd.f96.results.toList = [.tmp 2] := by kernel_rfl
theorem res97 : Tryd.f97.results.toList = [.tmp 2] := by kernel_rfl
theorem res98 : Tryd.f98.results.toList = [.tmp 2] := by kernel_rfl
theorem res99 : Tryd.f99.results.toList = [.tmp 2] := by kernel_rfl
section
variable (n no : Int) (s : List UInt8) (tok : Tok) (sz : Nat) (rows : List (List AV)) (h : Heap)
set_option maxHeartbeats 4000000 in
set_option maxRecDepth 100000 in
theorem kind1_ev : W.call 96 [.agg (row5 1 n no s tok sz rows)] h = some (.ret (.v (.bool (formB 1 n s rows.length true))), h.push (row5 1 n no s tok sz rows)) := by
  have u24 := Tryd.underlying24; have a3 := ag3; have a9 := ag9; have a24 := ag24
  refine call_of_run rfl Tryd.func96 rfl ?_
  repeat' (first | simp (config := { maxSteps := 4000000 }) (disch := first | assumption | (exact Nat.le_refl _) | omega | (simp only [List.length_cons, List.length_nil, List.length_append, push_len, put_len, len_app] <;> omega) | (simp (disch := (first | assumption | omega | (exact (push_len _ _).symm) | (simp only [push_len, put_len, len_app]; omega) | (refine Nat.le_antisymm ?_ ?_ <;> simp only [push_len, put_len, len_app] <;> omega) | fail)) only [get_push_last, get_push_eq, get_push_ne, get_put_eq, get_put_ne, get_app] <;> first | assumption | rfl) | (simp only [canApp_push, canApp_put]; assumption) | (exact start_round _ _) | (simp only [st_round, dfr_round, pn_round]; first | assumption | exact start_round _ _) | fail) only [goS, plainEv, resultsEv, resultListEv, reduceIte, Nat.reduceEqDiff, Option.map_some, Option.map_none, Option.bind_some, List.map_cons, List.map_nil, List.getD_cons_zero, List.getD_cons_succ, List.getElem?_toArray, List.getElem?_cons_zero, List.getElem?_cons_succ, eq_self, beq_self_eq_true, goH, List.append_nil, List.nil_append, res96, row5_cells, row5_1, row5_3, row5_4, fa26_1, fa26_3, fa26_4, *] | (refine guard_dec (fun _ => ?_) (fun _ => ?_) <;> try (exfalso; omega)) | (refine guard_ndec (fun _ => ?_) (fun _ => ?_) <;> try (exfalso; omega)) | (refine branch_dec (fun _ => ?_) (fun _ => ?_) <;> try (exfalso; omega)) | (refine branch_ndec (fun _ => ?_) (fun _ => ?_) <;> try (exfalso; omega)) | refine guard_nbool (fun _ => ?_) (fun _ => ?_) | refine branch_nbool (fun _ => ?_) (fun _ => ?_) | refine guard_bool (fun _ => ?_) (fun _ => ?_) | refine branch_bool (fun _ => ?_) (fun _ => ?_))
  all_goals
    refine answer2 ?_
    simp_all [formB]
    try (intro a b; exfalso; rename_i q; have := q a; omega)
set_option maxHeartbeats 4000000 in
set_option maxRecDepth 100000 in
theorem kind2_ev : W.call 97 [.agg (row5 2 n no s tok sz rows)] h = some (.ret (.v (.bool (formB 2 n s rows.length true))), h.push (row5 2 n no s tok sz rows)) := by
  have u24 := Tryd.underlying24; have a3 := ag3; have a9 := ag9; have a24 := ag24
  refine call_of_run rfl Tryd.func97 rfl ?_
  repeat' (first | simp (config := { maxSteps := 4000000 }) (disch := first | assumption | (exact Nat.le_refl _) | omega | (simp only [List.length_cons, List.length_nil, List.length_append, push_len, put_len, len_app] <;> omega) | (simp (disch := (first | assumption | omega | (exact (push_len _ _).symm) | (simp only [push_len, put_len, len_app]; omega) | (refine Nat.le_antisymm ?_ ?_ <;> simp only [push_len, put_len, len_app] <;> omega) | fail)) only [get_push_last, get_push_eq, get_push_ne, get_put_eq, get_put_ne, get_app] <;> first | assumption | rfl) | (simp only [canApp_push, canApp_put]; assumption) | (exact start_round _ _) | (simp only [st_round, dfr_round, pn_round]; first | assumption | exact start_round _ _) | fail) only [goS, plainEv, resultsEv, resultListEv, reduceIte, Nat.reduceEqDiff, Option.map_some, Option.map_none, Option.bind_some, List.map_cons, List.map_nil, List.getD_cons_zero, List.getD_cons_succ, List.getElem?_toArray, List.getElem?_cons_zero, List.getElem?_cons_succ, eq_self, beq_self_eq_true, goH, List.append_nil, List.nil_append, res97, row5_cells, row5_1, row5_3, row5_4, fa26_1, fa26_3, fa26_4, within_ev, *] | (refine guard_dec (fun _ => ?_) (fun _ => ?_) <;> try (exfalso; omega)) | (refine guard_ndec (fun _ => ?_) (fun _ => ?_) <;> try (exfalso; omega)) | (refine branch_dec (fun _ => ?_) (fun _ => ?_) <;> try (exfalso; omega)) | (refine branch_ndec (fun _ => ?_) (fun _ => ?_) <;> try (exfalso; omega)) | refine guard_nbool (fun _ => ?_) (fun _ => ?_) | refine branch_nbool (fun _ => ?_) (fun _ => ?_) | refine guard_bool (fun _ => ?_) (fun _ => ?_) | refine branch_bool (fun _ => ?_) (fun _ => ?_))
  all_goals
    refine answer2 ?_
    simp_all [formB]
    try (intro a b; exfalso; rename_i q; have := q a; omega)
set_option maxHeartbeats 4000000 in
set_option maxRecDepth 100000 in
theorem kind3_ev : W.call 98 [.agg (row5 3 n no s tok sz rows)] h = some (.ret (.v (.bool (formB 3 n s rows.length true))), h.push (row5 3 n no s tok sz rows)) := by
  have u24 := Tryd.underlying24; have a3 := ag3; have a9 := ag9; have a24 := ag24; have u9 := Tryd.underlying9
  refine call_of_run rfl Tryd.func98 rfl ?_
  repeat' (first | simp (config := { maxSteps := 4000000 }) (disch := first | assumption | (exact Nat.le_refl _) | omega | (simp only [List.length_cons, List.length_nil, List.length_append, push_len, put_len, len_app] <;> omega) | (simp (disch := (first | assumption | omega | (exact (push_len _ _).symm) | (simp only [push_len, put_len, len_app]; omega) | (refine Nat.le_antisymm ?_ ?_ <;> simp only [push_len, put_len, len_app] <;> omega) | fail)) only [get_push_last, get_push_eq, get_push_ne, get_put_eq, get_put_ne, get_app] <;> first | assumption | rfl) | (simp only [canApp_push, canApp_put]; assumption) | (exact start_round _ _) | (simp only [st_round, dfr_round, pn_round]; first | assumption | exact start_round _ _) | fail) only [goS, plainEv, resultsEv, resultListEv, reduceIte, Nat.reduceEqDiff, Option.map_some, Option.map_none, Option.bind_some, List.map_cons, List.map_nil, List.getD_cons_zero, List.getD_cons_succ, List.getElem?_toArray, List.getElem?_cons_zero, List.getElem?_cons_succ, eq_self, beq_self_eq_true, goH, List.append_nil, List.nil_append, res98, row5_cells, row5_1, row5_3, row5_4, fa26_1, fa26_3, fa26_4, within_ev, *] | (refine guard_dec (fun _ => ?_) (fun _ => ?_) <;> try (exfalso; omega)) | (refine guard_ndec (fun _ => ?_) (fun _ => ?_) <;> try (exfalso; omega)) | (refine branch_dec (fun _ => ?_) (fun _ => ?_) <;> try (exfalso; omega)) | (refine branch_ndec (fun _ => ?_) (fun _ => ?_) <;> try (exfalso; omega)) | refine guard_nbool (fun _ => ?_) (fun _ => ?_) | refine branch_nbool (fun _ => ?_) (fun _ => ?_) | refine guard_bool (fun _ => ?_) (fun _ => ?_) | refine branch_bool (fun _ => ?_) (fun _ => ?_))
  all_goals
    refine answer2 ?_
    simp_all [formB]
    try first | omega | (rw [Bool.eq_iff_iff]; simp only [Bool.and_eq_true, decide_eq_true_eq]; omega)
set_option maxHeartbeats 4000000 in
set_option maxRecDepth 100000 in
theorem kind4_ev : W.call 99 [.agg (row5 4 n no s tok sz rows)] h = some (.ret (.v (.bool (formB 4 n s rows.length true))), h.push (row5 4 n no s tok sz rows)) := by
  have u24 := Tryd.underlying24; have a3 := ag3; have a9 := ag9; have a24 := ag24; have u9 := Tryd.underlying9
  refine call_of_run rfl Tryd.func99 rfl ?_
  repeat' (first | simp (config := { maxSteps := 4000000 }) (disch := first | assumption | (exact Nat.le_refl _) | omega | (simp only [List.length_cons, List.length_nil, List.length_append, push_len, put_len, len_app] <;> omega) | (simp (disch := (first | assumption | omega | (exact (push_len _ _).symm) | (simp only [push_len, put_len, len_app]; omega) | (refine Nat.le_antisymm ?_ ?_ <;> simp only [push_len, put_len, len_app] <;> omega) | fail)) only [get_push_last, get_push_eq, get_push_ne, get_put_eq, get_put_ne, get_app] <;> first | assumption | rfl) | (simp only [canApp_push, canApp_put]; assumption) | (exact start_round _ _) | (simp only [st_round, dfr_round, pn_round]; first | assumption | exact start_round _ _) | fail) only [goS, plainEv, resultsEv, resultListEv, reduceIte, Nat.reduceEqDiff, Option.map_some, Option.map_none, Option.bind_some, List.map_cons, List.map_nil, List.getD_cons_zero, List.getD_cons_succ, List.getElem?_toArray, List.getElem?_cons_zero, List.getElem?_cons_succ, eq_self, beq_self_eq_true, goH, List.append_nil, List.nil_append, res99, row5_cells, row5_1, row5_3, row5_4, fa26_1, fa26_3, fa26_4, within_ev, *] | (refine guard_dec (fun _ => ?_) (fun _ => ?_) <;> try (exfalso; omega)) | (refine guard_ndec (fun _ => ?_) (fun _ => ?_) <;> try (exfalso; omega)) | (refine branch_dec (fun _ => ?_) (fun _ => ?_) <;> try (exfalso; omega)) | (refine branch_ndec (fun _ => ?_) (fun _ => ?_) <;> try (exfalso; omega)) | refine guard_nbool (fun _ => ?_) (fun _ => ?_) | refine branch_nbool (fun _ => ?_) (fun _ => ?_) | refine guard_bool (fun _ => ?_) (fun _ => ?_) | refine branch_bool (fun _ => ?_) (fun _ => ?_))
  all_goals
    refine answer2 ?_
    simp_all [formB]
    try first | omega | (rw [Bool.eq_iff_iff]; simp only [Bool.and_eq_true, decide_eq_true_eq]; omega)
end
end Go.Proofs.YtilmhlbjjfgeoaaDoor
end

section
namespace Go.Proofs.YtilmhlbjjfgeoaaDoor
open Go.AE Go.Lex Go.Pol
/-! ### form -/
def nextF (up : Bool) (_ : Unit) (z : Ex) (_ : Int) : Nx Unit := if formB z.kind z.n z.name z.l.length up = true then .cont () else .panic (stopV 200)
theorem feedF (up : Bool) : ∀ (x : Ex) (d : Int), feed (nextF up) x d () = if formedE up x = true then .cont () else .panic (stopV 200) := by
  intro x
  induction x using Ex.ind with
  | h k n no name l ih =>
    intro d
    have key : ∀ r : List Ex, (∀ y ∈ r, y ∈ l) → feedL (nextF up) r (d + 1) () = if formedL up r = true then .cont () else .panic (stopV 200) := by
      intro r
      induction r with
      | nil => intro _; rw [feedL, formedL]; rfl
      | cons y r ihr =>
        intro hin
        rw [feedL, ih y (hin y List.mem_cons_self), formedL]
        cases formedE up y with
        | true => simp only [if_true, Bool.true_and]; exact ihr fun z hz => hin z (List.mem_cons_of_mem _ hz)
        | false => simp
    have hn : nextF up () (.mk k n no name l) d = if formB k n name l.length up = true then .cont () else .panic (stopV 200) := rfl
    rw [feed, hn, formedE]
    cases formB k n name l.length up with
    | true => simp only [if_true, Bool.and_true]; exact key l fun _ h => h
    | false => simp
def headOk (kinds : List (List UInt8)) (i : Nat) (x : Rl) : Bool := decide (kinds[i]? = some x.kind) && (decide (0 ≤ x.think) && decide (x.think ≤ 1099511627775))
theorem exprs_len (p : Po) : (exprs p).length = p.rules.length + 1 := by simp [exprs]
theorem exprs_rule {p : Po} {j : Nat} {x : Rl} (h : p.rules[j]? = some x) : (exprs p)[j]? = some x.expr := by
  obtain ⟨hj, rfl⟩ := List.getElem?_eq_some_iff.1 h
  unfold exprs
  rw [List.getElem?_append_left (by simpa using hj), List.getElem?_map, List.getElem?_eq_getElem hj]
  rfl
theorem exprs_last (p : Po) : (exprs p)[p.rules.length]? = some p.change := by
  unfold exprs
  rw [List.getElem?_append_right (by simp)]
  simp
theorem formed_iff {p : Po} : formedP p = true ↔ 1 ≤ p.kinds.length ∧ p.rules.length = p.kinds.length ∧ (decide (1 ≤ p.mode) && decide (p.mode ≤ 4)) = true ∧ (∀ j x, p.rules[j]? = some x → headOk p.kinds j x = true) ∧ ∀ j y, (exprs p)[j]? = some y → formedE (decide (j < p.rules.length)) y = true := by
  simp only [formedP, Bool.and_eq_true, decide_eq_true_eq, rulesOk_iff]
  constructor
  · rintro ⟨⟨⟨⟨⟨h1, h2⟩, h3⟩, h4⟩, h5⟩, h6⟩
    refine ⟨h1, h2, ⟨h3, h4⟩, fun j x hx => ?_, fun j y hy => ?_⟩
    · have := h5 j x hx
      simp only [ruleOk, headOk, Bool.and_eq_true, decide_eq_true_eq] at this ⊢
      exact ⟨this.1.1.1, this.1.1.2, by omega⟩
    · rcases Nat.lt_or_ge j p.rules.length with w | w
      · have hx : p.rules[j]? = some p.rules[j] := List.getElem?_eq_getElem w
        rw [exprs_rule hx] at hy
        injection hy with hy
        subst hy
        have := h5 j _ hx
        simp only [ruleOk, Bool.and_eq_true] at this
        rw [decide_eq_true w]; exact this.2
      · have hj := (List.getElem?_eq_some_iff.1 hy).1
        rw [exprs_len] at hj
        have : j = p.rules.length := by omega
        subst this
        rw [exprs_last] at hy
        injection hy with hy
        subst hy
        rw [decide_eq_false (by omega)]; exact h6
  · rintro ⟨h1, h2, ⟨h3, h4⟩, h5, h6⟩
    refine ⟨⟨⟨⟨⟨h1, h2⟩, h3⟩, h4⟩, fun j x hx => ?_⟩, ?_⟩
    · have q := h5 j x hx
      have q2 := h6 j _ (exprs_rule hx)
      rw [decide_eq_true (List.getElem?_eq_some_iff.1 hx).1] at q2
      simp only [ruleOk, headOk, Bool.and_eq_true, decide_eq_true_eq] at q ⊢
      exact ⟨⟨⟨q.1, q.2.1⟩, by omega⟩, q2⟩
    · have := h6 _ _ (exprs_last p)
      rw [decide_eq_false (by omega)] at this
      exact this
theorem tbl (k : Int) : indexAddrEv Tryd.prog 81 (.ptr (.glob 0) 0) (.v (.int .i64 1)) = some (.ptr (.glob 0) 1) ∧ indexAddrEv Tryd.prog 81 (.ptr (.glob 0) 0) (.v (.int .i64 2)) = some (.ptr (.glob 0) 2) ∧ indexAddrEv Tryd.prog 81 (.ptr (.glob 0) 0) (.v (.int .i64 3)) = some (.ptr (.glob 0) 3) ∧ indexAddrEv Tryd.prog 81 (.ptr (.glob 0) 0) (.v (.int .i64 4)) = some (.ptr (.glob 0) 4) :=
  ⟨by kernel_rfl, by kernel_rfl, by kernel_rfl, by kernel_rfl⟩
theorem tbl_load : (∀ h : Heap, loadEv Tryd.prog Gk h 58 (.ptr (.glob 0) 1) = some (.func (.func 96) [] [])) ∧ (∀ h : Heap, loadEv Tryd.prog Gk h 58 (.ptr (.glob 0) 2) = some (.func (.func 97) [] [])) ∧ (∀ h : Heap, loadEv Tryd.prog Gk h 58 (.ptr (.glob 0) 3) = some (.func (.func 98) [] [])) ∧ (∀ h : Heap, loadEv Tryd.prog Gk h 58 (.ptr (.glob 0) 4) = some (.func (.func 99) [] [])) :=
  ⟨fun _ => by kernel_rfl, fun _ => by kernel_rfl, fun _ => by kernel_rfl, fun _ => by kernel_rfl⟩
theorem res39 : Tryd.f39.results.toList = [] := by kernel_rfl
theorem zc24 : (zeroA Tryd.prog 24).bind AV.cellsO = some [.list .nil 0 []] := by kernel_rfl
theorem store24 {h : Heap} {b : Nat} {x : AV} {tok' : Tok} {sz' : Nat} {rows' : List (List AV)} (hb : h.boxes[b]? = some [x]) : storeEv Tryd.prog h 24 (.ptr (.box b) 0) (.list tok' sz' rows') = some (h.put b [.list tok' sz' rows']) := store_box (off := 0) (cs := [x]) (xs := [.list tok' sz' rows']) rfl sz24 hb rfl (Nat.le_refl 1)
/-- The parts' bodies. -/
theorem kind_call (z : Ex) (tok : Tok) (sz : Nat) (rows : List (List AV)) (hl : rows.length = z.l.length) : (z.kind = 1 ∨ z.kind = 2 ∨ z.kind = 3 ∨ z.kind = 4) → ∃ g, (∀ h : Heap, loadEv Tryd.prog Gk h 58 (.ptr (.glob 0) z.kind.toNat) = some (.func (.func g) [] [])) ∧ indexAddrEv Tryd.prog 81 (.ptr (.glob 0) 0) (.v (.int .i64 z.kind)) = some (.ptr (.glob 0) z.kind.toNat) ∧
    ∀ h : Heap, W.call g [.agg (row5 z.kind z.n z.no z.name tok sz rows)] h = some (.ret (.v (.bool (formB z.kind z.n z.name z.l.length true))), h.push (row5 z.kind z.n z.no z.name tok sz rows)) := by
  obtain ⟨k, n, no, s, l⟩ := z
  simp only [Ex.kind, Ex.n, Ex.no, Ex.name, Ex.l] at hl ⊢
  rintro (rfl | rfl | rfl | rfl)
  · exact ⟨96, tbl_load.1, (tbl 0).1, fun h => by rw [← hl]; exact kind1_ev n no s tok sz rows h⟩
  · exact ⟨97, tbl_load.2.1, (tbl 0).2.1, fun h => by rw [← hl]; exact kind2_ev n no s tok sz rows h⟩
  · exact ⟨98, tbl_load.2.2.1, (tbl 0).2.2.1, fun h => by rw [← hl]; exact kind3_ev n no s tok sz rows h⟩
  · exact ⟨99, tbl_load.2.2.2, (tbl 0).2.2.2, fun h => by rw [← hl]; exact kind4_ev n no s tok sz rows h⟩
theorem formB_up {k n : Int} {s : List UInt8} {m : Nat} {up : Bool} : formB k n s m up = (formB k n s m true && (up || !decide (k = 4))) := by
  unfold formB
  cases up with
  | true => simp
  | false => by_cases h4 : k = 4 <;> simp [h4]
theorem formB_kind {k n : Int} {s : List UInt8} {m : Nat} {up : Bool} (h : formB k n s m up = true) : k = 1 ∨ k = 2 ∨ k = 3 ∨ k = 4 := by
  unfold formB at h
  by_cases h1 : k = 1
  · exact .inl h1
  · by_cases h2 : k = 2
    · exact .inr (.inl h2)
    · by_cases h3 : k = 3
      · exact .inr (.inr (.inl h3))
      · by_cases h4 : k = 4
        · exact .inr (.inr (.inr h4))
        · rw [if_neg h1, if_neg h2, if_neg h3, if_neg h4] at h
          cases h
set_option maxHeartbeats 16000000 in
set_option maxRecDepth 100000 in
theorem form_ev (p : Po) (t : PT) (ok : POk p t) (few : PFew p) (h : Heap) (hok : okHeap h = true) : Ends W 39 [.agg (prow p t)] h (formedP p) 200 := by
  have u24 := Tryd.underlying24; have u9 := Tryd.underlying9
  have a3 := ag3; have a9 := ag9; have a22 := ag22; have a23 := ag23; have a24 := ag24; have a26 := ag26; have a28 := ag28; have a43 := ag43; have s9 := sz9; have s26 := sz26; have s28 := sz28; have s43 := sz43; have s3 := sz3; have z26 := zc26; have z43 := zc43'; have z24 := zc24; have z3 := zc3
  have u22 := Tryd.underlying22; have u23 := Tryd.underlying23
  have hlen := ok.rules.1
  have kok := Keep.mk ok
  have kfew := Keep.mk few
  have kokh := Keep.mk hok
  have kx0 := Keep.mk (Ext.push h (prow p t))
  suffices hs : ∃ r h', W.call 39 [.agg (prow p t)] h = some (r, h') ∧ (r = (if formedP p = true then .ret (.tuple []) else .panic (stopV 200)) ∧ Ext h h') by
    obtain ⟨r, h', q1, rfl, q3⟩ := hs
    exact ⟨h', q1, q3⟩
  have hbad : formedP p = false → ∀ h2, Ext h h2 → ∃ r h', some (Res.panic (stopV 200), h2) = some (r, h') ∧ r = (if formedP p = true then Res.ret (AV.tuple []) else Res.panic (stopV 200)) ∧ Ext h h' := fun hsm h2 hx => ⟨_, _, rfl, by rw [hsm]; rfl, hx⟩
  have kbadF := Keep.mk hbad
  clear hbad few hok
  have hq : ((t.rr.length : Int) = (p.kinds.length : Int)) = (p.rules.length = p.kinds.length) := by rw [hlen]; exact propext ⟨fun q => by omega, fun q => by omega⟩
  have khq := Keep.mk hq
  clear hq
  have hwm : ∀ h : Heap, W.call 48 [.v (.int .i64 p.mode), .v (.int .i64 1), .v (.int .i64 4)] h = some (.ret (.v (.bool (decide (1 ≤ p.mode) && decide (p.mode ≤ 4)))), h) := within_ev p.mode 1 4
  refine call_post rfl Tryd.func39 rfl ?_
  by_cases hgood : 1 ≤ p.kinds.length ∧ p.rules.length = p.kinds.length ∧ (decide (1 ≤ p.mode) && decide (p.mode ≤ 4)) = true
  · have kgood := Keep.mk hgood
    obtain ⟨g1, g2, g3⟩ := hgood
    rw [g3] at hwm
    have d1 : decide ((0 : Int) < (p.kinds.length : Int)) = true := decide_eq_true (by omega)
    have d2 : decide ((p.rules.length : Int) = (p.kinds.length : Int)) = true := decide_eq_true (by omega)
    clear g1 g2 g3
    repeat' (first | simp (config := { maxSteps := 4000000 }) (disch := first | assumption | (exact Nat.le_refl _) | omega | (simp only [List.length_cons, List.length_nil, List.length_append, push_len, put_len, len_app] <;> omega) | (simp (disch := (first | assumption | omega | (exact (push_len _ _).symm) | (simp only [push_len, put_len, len_app]; omega) | (refine Nat.le_antisymm ?_ ?_ <;> simp only [push_len, put_len, len_app] <;> omega) | fail)) only [get_push_last, get_push_eq, get_push_ne, get_put_eq, get_put_ne, get_app] <;> first | assumption | rfl) | (simp only [canApp_push, canApp_put]; assumption) | (exact start_round _ _) | (simp only [st_round, dfr_round, pn_round]; first | assumption | exact start_round _ _) | fail) only [goS, plainEv, resultsEv, resultListEv, reduceIte, Nat.reduceEqDiff, Option.map_some, Option.map_none, Option.bind_some, List.map_cons, List.map_nil, List.getD_cons_zero, List.getD_cons_succ, List.getElem?_toArray, List.getElem?_cons_zero, List.getElem?_cons_succ, eq_self, beq_self_eq_true, goH, List.append_nil, List.nil_append, res39, fp28, fp43, prs, rrs, load28, push_len, strs_len, must_ok, must_bad, *] | (refine guard_dec (fun _ => ?_) (fun _ => ?_) <;> try (exfalso; omega)) | (refine guard_ndec (fun _ => ?_) (fun _ => ?_) <;> try (exfalso; omega)) | (refine branch_dec (fun _ => ?_) (fun _ => ?_) <;> try (exfalso; omega)) | (refine branch_ndec (fun _ => ?_) (fun _ => ?_) <;> try (exfalso; omega)) | refine guard_nbool (fun _ => ?_) (fun _ => ?_) | refine branch_nbool (fun _ => ?_) (fun _ => ?_) | refine guard_bool (fun _ => ?_) (fun _ => ?_) | refine branch_bool (fun _ => ?_) (fun _ => ?_))
    refine run_loop (fun m e h' => ∃ (i : Nat), i ≤ p.rules.length ∧ m = p.rules.length - i ∧ e.get 1 = .ptr (.box h.boxes.length) 0 ∧ e.get 28 = .list t.tr t.sr t.rr ∧ e.get 29 = .v (.int .i64 (p.rules.length : Nat)) ∧ e.get 30 = .v (.int .i64 i) ∧ e.defers = [] ∧ Ext h h' ∧ okHeap h' = true ∧ h'.boxes[h.boxes.length]? = some (prow p t) ∧ ∀ j x, j < i → p.rules[j]? = some x → headOk p.kinds j x = true) ?_ p.rules.length _ _ ?_
    · rintro m e h' ⟨i, hi, rfl, g1', g28, g29, g30, hd, hx, hok', hb, hno⟩
      have kx := Keep.mk hx
      have kno := Keep.mk hno
      have kok' := Keep.mk hok'
      clear hx hno hok' d1 d2 hwm
      have n1' := (List.getElem?_eq_some_iff.1 hb).1
      have hbr := kok.out.br
      have hll := kfew.out.l
      by_cases hlt : i < p.rules.length
      · obtain ⟨y, tok, sz, rows, hy, hr, hyr⟩ := RRows.get kok.out.rules hlt
        have h8 := kok.out.zr i hlt
        have h1 := kok.out.zk i (by have := kgood.out.2.1; omega)
        obtain ⟨s, hs⟩ : ∃ s, p.kinds[i]? = some s := ⟨_, List.getElem?_eq_getElem (by have := kgood.out.2.1; omega)⟩
        have hlt3 : (i : Int) < (t.rr.length : Int) := by rw [hlen]; omega
        have hlt5 : (i : Int) < (p.rules.length : Int) := by omega
        have hlt4 : (i : Int) < ((strs p.kinds).length : Int) := by rw [strs_len]; have := kgood.out.2.1; omega
        have rf8 := @rrow_fit8 y tok sz rows
        have hwt : ∀ h : Heap, W.call 48 [.v (.int .i64 y.think), .v (.int .i64 0), .v (.int .i64 1099511627775)] h = some (.ret (.v (.bool (decide (0 ≤ y.think) && decide (y.think ≤ 1099511627775)))), h) := within_ev y.think 0 1099511627775
        have nb : h.boxes.length ≠ h'.boxes.length := by omega
        have kb := Keep.mk hb
        have kxp := Keep.mk (kx.out.trans (.push _ (rrow y tok sz rows)))
        have hhd : headOk p.kinds i y = (decide (y.kind = s) && (decide (0 ≤ y.think) && decide (y.think ≤ 1099511627775))) := by
          unfold headOk
          rw [hs]
          congr 1
          rw [Bool.eq_iff_iff]; simp only [decide_eq_true_eq, Option.some.injEq]; exact eq_comm
        have khd := Keep.mk hhd
        clear hhd
        have hbad : headOk p.kinds i y = false → formedP p = false := by
          intro q
          rw [Bool.eq_false_iff]
          intro q2
          have := (formed_iff.1 q2).2.2.2.1 i y hy
          rw [q] at this; cases this
        have kbad := Keep.mk hbad
        clear hbad
        cases e1 : decide (y.kind = s) with
        | false =>
          have kfin := Keep.mk (kbadF.out (kbad.out (by rw [khd.out, e1]; rfl)))
          repeat' (first | simp (config := { maxSteps := 4000000 }) (disch := first | assumption | (exact Nat.le_refl _) | omega | (simp only [List.length_cons, List.length_nil, List.length_append, push_len, put_len, len_app] <;> omega) | (simp (disch := (first | assumption | omega | (exact (push_len _ _).symm) | (simp only [push_len, put_len, len_app]; omega) | (refine Nat.le_antisymm ?_ ?_ <;> simp only [push_len, put_len, len_app] <;> omega) | fail)) only [get_push_last, get_push_eq, get_push_ne, get_put_eq, get_put_ne, get_app] <;> first | assumption | rfl) | (simp only [canApp_push, canApp_put]; assumption) | (exact start_round _ _) | (simp only [st_round, dfr_round, pn_round]; first | assumption | exact start_round _ _) | fail) only [goS, plainEv, resultsEv, resultListEv, reduceIte, Nat.reduceEqDiff, Option.map_some, Option.map_none, Option.bind_some, List.map_cons, List.map_nil, List.getD_cons_zero, List.getD_cons_succ, List.getElem?_toArray, List.getElem?_cons_zero, List.getElem?_cons_succ, eq_self, beq_self_eq_true, goH, List.append_nil, List.nil_append, res39, fp28, fp43, prs, rrs, load43, store43, index_list, load_row_agg, load_row, strs_get, cell_one, put_push_eq, put_push_ne, push_len, must_ok, must_bad, *] | (refine guard_dec (fun _ => ?_) (fun _ => ?_) <;> try (exfalso; omega)) | (refine guard_ndec (fun _ => ?_) (fun _ => ?_) <;> try (exfalso; omega)) | (refine branch_dec (fun _ => ?_) (fun _ => ?_) <;> try (exfalso; omega)) | (refine branch_ndec (fun _ => ?_) (fun _ => ?_) <;> try (exfalso; omega)) | refine guard_nbool (fun _ => ?_) (fun _ => ?_) | refine branch_nbool (fun _ => ?_) (fun _ => ?_) | refine guard_bool (fun _ => ?_) (fun _ => ?_) | refine branch_bool (fun _ => ?_) (fun _ => ?_))
          refine run_draw_last (n := 13) rfl (by kernel_rfl) (by kernel_rfl) (by kernel_rfl) ?_
          simp only [List.take_succ_cons, List.take_zero, List.drop_succ_cons, List.drop_zero]
          repeat' (first | simp (config := { maxSteps := 4000000 }) (disch := first | assumption | (exact Nat.le_refl _) | omega | (simp only [List.length_cons, List.length_nil, List.length_append, push_len, put_len, len_app] <;> omega) | (simp (disch := (first | assumption | omega | (exact (push_len _ _).symm) | (simp only [push_len, put_len, len_app]; omega) | (refine Nat.le_antisymm ?_ ?_ <;> simp only [push_len, put_len, len_app] <;> omega) | fail)) only [get_push_last, get_push_eq, get_push_ne, get_put_eq, get_put_ne, get_app] <;> first | assumption | rfl) | (simp only [canApp_push, canApp_put]; assumption) | (exact start_round _ _) | (simp only [st_round, dfr_round, pn_round]; first | assumption | exact start_round _ _) | fail) only [goS, plainEv, resultsEv, resultListEv, reduceIte, Nat.reduceEqDiff, Option.map_some, Option.map_none, Option.bind_some, List.map_cons, List.map_nil, List.getD_cons_zero, List.getD_cons_succ, List.getElem?_toArray, List.getElem?_cons_zero, List.getElem?_cons_succ, eq_self, beq_self_eq_true, goH, List.append_nil, List.nil_append, res39, fp28, fp43, prs, rrs, load43, store43, index_list, load_row_agg, load_row, strs_get, cell_one, put_push_eq, put_push_ne, push_len, must_ok, must_bad, lastQ_normal, tailQ_normal, tailQ_panic, *] | (refine guard_dec (fun _ => ?_) (fun _ => ?_) <;> try (exfalso; omega)) | (refine guard_ndec (fun _ => ?_) (fun _ => ?_) <;> try (exfalso; omega)) | (refine branch_dec (fun _ => ?_) (fun _ => ?_) <;> try (exfalso; omega)) | (refine branch_ndec (fun _ => ?_) (fun _ => ?_) <;> try (exfalso; omega)) | refine guard_nbool (fun _ => ?_) (fun _ => ?_) | refine branch_nbool (fun _ => ?_) (fun _ => ?_) | refine guard_bool (fun _ => ?_) (fun _ => ?_) | refine branch_bool (fun _ => ?_) (fun _ => ?_))
          all_goals exact kfin.out _ kxp.out
        | true =>
          cases e2 : (decide (0 ≤ y.think) && decide (y.think ≤ 1099511627775)) with
          | false =>
            rw [e2] at hwt
            have kfin := Keep.mk (kbadF.out (kbad.out (by rw [khd.out, e2]; simp)))
            repeat' (first | simp (config := { maxSteps := 4000000 }) (disch := first | assumption | (exact Nat.le_refl _) | omega | (simp only [List.length_cons, List.length_nil, List.length_append, push_len, put_len, len_app] <;> omega) | (simp (disch := (first | assumption | omega | (exact (push_len _ _).symm) | (simp only [push_len, put_len, len_app]; omega) | (refine Nat.le_antisymm ?_ ?_ <;> simp only [push_len, put_len, len_app] <;> omega) | fail)) only [get_push_last, get_push_eq, get_push_ne, get_put_eq, get_put_ne, get_app] <;> first | assumption | rfl) | (simp only [canApp_push, canApp_put]; assumption) | (exact start_round _ _) | (simp only [st_round, dfr_round, pn_round]; first | assumption | exact start_round _ _) | fail) only [goS, plainEv, resultsEv, resultListEv, reduceIte, Nat.reduceEqDiff, Option.map_some, Option.map_none, Option.bind_some, List.map_cons, List.map_nil, List.getD_cons_zero, List.getD_cons_succ, List.getElem?_toArray, List.getElem?_cons_zero, List.getElem?_cons_succ, eq_self, beq_self_eq_true, goH, List.append_nil, List.nil_append, res39, fp28, fp43, prs, rrs, load43, store43, index_list, load_row_agg, load_row, strs_get, cell_one, put_push_eq, put_push_ne, push_len, must_ok, must_bad, *] | (refine guard_dec (fun _ => ?_) (fun _ => ?_) <;> try (exfalso; omega)) | (refine guard_ndec (fun _ => ?_) (fun _ => ?_) <;> try (exfalso; omega)) | (refine branch_dec (fun _ => ?_) (fun _ => ?_) <;> try (exfalso; omega)) | (refine branch_ndec (fun _ => ?_) (fun _ => ?_) <;> try (exfalso; omega)) | refine guard_nbool (fun _ => ?_) (fun _ => ?_) | refine branch_nbool (fun _ => ?_) (fun _ => ?_) | refine guard_bool (fun _ => ?_) (fun _ => ?_) | refine branch_bool (fun _ => ?_) (fun _ => ?_))
            refine run_draw_last (n := 13) rfl (by kernel_rfl) (by kernel_rfl) (by kernel_rfl) ?_
            simp only [List.take_succ_cons, List.take_zero, List.drop_succ_cons, List.drop_zero]
            repeat' (first | simp (config := { maxSteps := 4000000 }) (disch := first | assumption | (exact Nat.le_refl _) | omega | (simp only [List.length_cons, List.length_nil, List.length_append, push_len, put_len, len_app] <;> omega) | (simp (disch := (first | assumption | omega | (exact (push_len _ _).symm) | (simp only [push_len, put_len, len_app]; omega) | (refine Nat.le_antisymm ?_ ?_ <;> simp only [push_len, put_len, len_app] <;> omega) | fail)) only [get_push_last, get_push_eq, get_push_ne, get_put_eq, get_put_ne, get_app] <;> first | assumption | rfl) | (simp only [canApp_push, canApp_put]; assumption) | (exact start_round _ _) | (simp only [st_round, dfr_round, pn_round]; first | assumption | exact start_round _ _) | fail) only [goS, plainEv, resultsEv, resultListEv, reduceIte, Nat.reduceEqDiff, Option.map_some, Option.map_none, Option.bind_some, List.map_cons, List.map_nil, List.getD_cons_zero, List.getD_cons_succ, List.getElem?_toArray, List.getElem?_cons_zero, List.getElem?_cons_succ, eq_self, beq_self_eq_true, goH, List.append_nil, List.nil_append, res39, fp28, fp43, prs, rrs, load43, store43, index_list, load_row_agg, load_row, strs_get, cell_one, put_push_eq, put_push_ne, push_len, must_ok, must_bad, lastQ_normal, tailQ_normal, tailQ_panic, *] | (refine guard_dec (fun _ => ?_) (fun _ => ?_) <;> try (exfalso; omega)) | (refine guard_ndec (fun _ => ?_) (fun _ => ?_) <;> try (exfalso; omega)) | (refine branch_dec (fun _ => ?_) (fun _ => ?_) <;> try (exfalso; omega)) | (refine branch_ndec (fun _ => ?_) (fun _ => ?_) <;> try (exfalso; omega)) | refine guard_nbool (fun _ => ?_) (fun _ => ?_) | refine branch_nbool (fun _ => ?_) (fun _ => ?_) | refine guard_bool (fun _ => ?_) (fun _ => ?_) | refine branch_bool (fun _ => ?_) (fun _ => ?_))
            all_goals exact kfin.out _ kxp.out
          | true =>
            rw [e2] at hwt
            have khok := Keep.mk (show headOk p.kinds i y = true by rw [khd.out, e1, e2]; rfl)
            repeat' (first | simp (config := { maxSteps := 4000000 }) (disch := first | assumption | (exact Nat.le_refl _) | omega | (simp only [List.length_cons, List.length_nil, List.length_append, push_len, put_len, len_app] <;> omega) | (simp (disch := (first | assumption | omega | (exact (push_len _ _).symm) | (simp only [push_len, put_len, len_app]; omega) | (refine Nat.le_antisymm ?_ ?_ <;> simp only [push_len, put_len, len_app] <;> omega) | fail)) only [get_push_last, get_push_eq, get_push_ne, get_put_eq, get_put_ne, get_app] <;> first | assumption | rfl) | (simp only [canApp_push, canApp_put]; assumption) | (exact start_round _ _) | (simp only [st_round, dfr_round, pn_round]; first | assumption | exact start_round _ _) | fail) only [goS, plainEv, resultsEv, resultListEv, reduceIte, Nat.reduceEqDiff, Option.map_some, Option.map_none, Option.bind_some, List.map_cons, List.map_nil, List.getD_cons_zero, List.getD_cons_succ, List.getElem?_toArray, List.getElem?_cons_zero, List.getElem?_cons_succ, eq_self, beq_self_eq_true, goH, List.append_nil, List.nil_append, res39, fp28, fp43, prs, rrs, load43, store43, index_list, load_row_agg, load_row, strs_get, cell_one, put_push_eq, put_push_ne, push_len, must_ok, must_bad, *] | (refine guard_dec (fun _ => ?_) (fun _ => ?_) <;> try (exfalso; omega)) | (refine guard_ndec (fun _ => ?_) (fun _ => ?_) <;> try (exfalso; omega)) | (refine branch_dec (fun _ => ?_) (fun _ => ?_) <;> try (exfalso; omega)) | (refine branch_ndec (fun _ => ?_) (fun _ => ?_) <;> try (exfalso; omega)) | refine guard_nbool (fun _ => ?_) (fun _ => ?_) | refine branch_nbool (fun _ => ?_) (fun _ => ?_) | refine guard_bool (fun _ => ?_) (fun _ => ?_) | refine branch_bool (fun _ => ?_) (fun _ => ?_))
            refine run_draw_last (n := 13) rfl (by kernel_rfl) (by kernel_rfl) (by kernel_rfl) ?_
            simp only [List.take_succ_cons, List.take_zero, List.drop_succ_cons, List.drop_zero]
            repeat' (first | simp (config := { maxSteps := 4000000 }) (disch := first | assumption | (exact Nat.le_refl _) | omega | (simp only [List.length_cons, List.length_nil, List.length_append, push_len, put_len, len_app] <;> omega) | (simp (disch := (first | assumption | omega | (exact (push_len _ _).symm) | (simp only [push_len, put_len, len_app]; omega) | (refine Nat.le_antisymm ?_ ?_ <;> simp only [push_len, put_len, len_app] <;> omega) | fail)) only [get_push_last, get_push_eq, get_push_ne, get_put_eq, get_put_ne, get_app] <;> first | assumption | rfl) | (simp only [canApp_push, canApp_put]; assumption) | (exact start_round _ _) | (simp only [st_round, dfr_round, pn_round]; first | assumption | exact start_round _ _) | fail) only [goS, plainEv, resultsEv, resultListEv, reduceIte, Nat.reduceEqDiff, Option.map_some, Option.map_none, Option.bind_some, List.map_cons, List.map_nil, List.getD_cons_zero, List.getD_cons_succ, List.getElem?_toArray, List.getElem?_cons_zero, List.getElem?_cons_succ, eq_self, beq_self_eq_true, goH, List.append_nil, List.nil_append, res39, fp28, fp43, prs, rrs, load43, store43, index_list, load_row_agg, load_row, strs_get, cell_one, put_push_eq, put_push_ne, push_len, must_ok, must_bad, lastQ_normal, tailQ_normal, tailQ_panic, *] | (refine guard_dec (fun _ => ?_) (fun _ => ?_) <;> try (exfalso; omega)) | (refine guard_ndec (fun _ => ?_) (fun _ => ?_) <;> try (exfalso; omega)) | (refine branch_dec (fun _ => ?_) (fun _ => ?_) <;> try (exfalso; omega)) | (refine branch_ndec (fun _ => ?_) (fun _ => ?_) <;> try (exfalso; omega)) | refine guard_nbool (fun _ => ?_) (fun _ => ?_) | refine branch_nbool (fun _ => ?_) (fun _ => ?_) | refine guard_bool (fun _ => ?_) (fun _ => ?_) | refine branch_bool (fun _ => ?_) (fun _ => ?_))
            refine ⟨p.rules.length - (i + 1), by omega, i + 1, by omega, rfl, (by first | trivial | (simp; done) | (simp; omega)), (by first | trivial | (simp; done) | (simp; omega)), (by first | trivial | (simp; done) | (simp; omega)), (by first | trivial | (simp; done) | (simp; omega)), (by first | trivial | (simp; done) | (simp; omega)), kxp.out, kok'.out, push_old kb.out, fun j x hj hx => ?_⟩
            rcases Nat.lt_or_ge j i with w | w
            · exact kno.out j x w hx
            · have : j = i := by omega
              subst this
              rw [hy] at hx; injection hx with hx; subst hx; exact khok.out
      · have hie : i = p.rules.length := by omega
        subst hie
        have hlt3 : ¬ ((p.rules.length : Int) < (p.rules.length : Int)) := by omega
        have hheads : ∀ j x, p.rules[j]? = some x → headOk p.kinds j x = true := fun j x hx => kno.out j x (List.getElem?_eq_some_iff.1 hx).1 hx
        have kheads := Keep.mk hheads
        obtain ⟨tokE, rowsE, h2, c2, hx2, hrE⟩ := expressions_ev p t kok.out hll h' kok'.out
        have hlE := hrE.1
        have b1 := hx2.box _ _ hb
        have k2 := Keep.mk (kx.out.trans hx2)
        have krE := Keep.mk hrE
        have hexl := exprs_len p
        clear hx2 hrE hheads
        repeat' (first | simp (config := { maxSteps := 4000000 }) (disch := first | assumption | (exact Nat.le_refl _) | omega | (simp only [List.length_cons, List.length_nil, List.length_append, push_len, put_len, len_app] <;> omega) | (simp (disch := (first | assumption | omega | (exact (push_len _ _).symm) | (simp only [push_len, put_len, len_app]; omega) | (refine Nat.le_antisymm ?_ ?_ <;> simp only [push_len, put_len, len_app] <;> omega) | fail)) only [get_push_last, get_push_eq, get_push_ne, get_put_eq, get_put_ne, get_app] <;> first | assumption | rfl) | (simp only [canApp_push, canApp_put]; assumption) | (exact start_round _ _) | (simp only [st_round, dfr_round, pn_round]; first | assumption | exact start_round _ _) | fail) only [goS, plainEv, resultsEv, resultListEv, reduceIte, Nat.reduceEqDiff, Option.map_some, Option.map_none, Option.bind_some, List.map_cons, List.map_nil, List.getD_cons_zero, List.getD_cons_succ, List.getElem?_toArray, List.getElem?_cons_zero, List.getElem?_cons_succ, eq_self, beq_self_eq_true, goH, List.append_nil, List.nil_append, res39, fp28, fp43, prs, rrs, load28, store24, put_push_eq, put_push_ne, push_len, cell_one, *] | (refine guard_dec (fun _ => ?_) (fun _ => ?_) <;> try (exfalso; omega)) | (refine guard_ndec (fun _ => ?_) (fun _ => ?_) <;> try (exfalso; omega)) | (refine branch_dec (fun _ => ?_) (fun _ => ?_) <;> try (exfalso; omega)) | (refine branch_ndec (fun _ => ?_) (fun _ => ?_) <;> try (exfalso; omega)) | refine guard_nbool (fun _ => ?_) (fun _ => ?_) | refine branch_nbool (fun _ => ?_) (fun _ => ?_) | refine guard_bool (fun _ => ?_) (fun _ => ?_) | refine branch_bool (fun _ => ?_) (fun _ => ?_))
        refine run_loop (fun m e h' => ∃ (i : Nat), i ≤ (exprs p).length ∧ m = (exprs p).length - i ∧ e.get 4 = .ptr (.box h2.boxes.length) 0 ∧ e.get 52 = .list tokE 5 rowsE ∧ e.get 53 = .v (.int .i64 ((p.rules.length + 1 : Nat))) ∧ e.get 54 = .v (.int .i64 i) ∧ e.defers = [] ∧ Ext h h' ∧ h'.boxes[h2.boxes.length]? = some [.list tokE 5 rowsE] ∧ ∀ j y, j < i → (exprs p)[j]? = some y → formedE (decide (j < p.rules.length)) y = true) ?_ (exprs p).length _ _ ?_
        · rintro m e h' ⟨i, hi, rfl, q4, q52, q53, q54, hd, hx, hb, hno⟩
          have kx := Keep.mk hx
          have kno := Keep.mk hno
          clear hx hno c2 b1
          have n1' := (List.getElem?_eq_some_iff.1 hb).1
          by_cases hlt : i < (exprs p).length
          · obtain ⟨y, r, hy, hr, hyr⟩ := krE.out.get hlt
            obtain ⟨tk2, sz2, rows2, rfl, -⟩ := Row.five hyr
            have hlt3 : (i : Int) < (rowsE.length : Int) := by rw [hlE]; omega
            have hlt4 : (i : Int) < ((p.rules.length + 1 : Nat) : Int) := by omega
            have hle5 : 5 ≤ ((row5 y.kind y.n y.no y.name tk2 sz2 rows2).drop 0).length := by rw [List.drop_zero]; exact Nat.le_refl _
            have hpf := partsF_ev y _ hyr 1
            have kyr := Keep.mk hyr
            clear hyr
            repeat' (first | simp (config := { maxSteps := 4000000 }) (disch := first | assumption | (exact Nat.le_refl _) | omega | (simp only [List.length_cons, List.length_nil, List.length_append, push_len, put_len, len_app] <;> omega) | (simp (disch := (first | assumption | omega | (exact (push_len _ _).symm) | (simp only [push_len, put_len, len_app]; omega) | (refine Nat.le_antisymm ?_ ?_ <;> simp only [push_len, put_len, len_app] <;> omega) | fail)) only [get_push_last, get_push_eq, get_push_ne, get_put_eq, get_put_ne, get_app] <;> first | assumption | rfl) | (simp only [canApp_push, canApp_put]; assumption) | (exact start_round _ _) | (simp only [st_round, dfr_round, pn_round]; first | assumption | exact start_round _ _) | fail) only [goS, plainEv, resultsEv, resultListEv, reduceIte, Nat.reduceEqDiff, Option.map_some, Option.map_none, Option.bind_some, List.map_cons, List.map_nil, List.getD_cons_zero, List.getD_cons_succ, List.getElem?_toArray, List.getElem?_cons_zero, List.getElem?_cons_succ, eq_self, beq_self_eq_true, goH, List.append_nil, List.nil_append, res39, load26, store26, store3, index_list, load_row_agg, row5_all, cell_one, put_push_eq, put_push_ne, push_len, splice_one, *] | (refine guard_dec (fun _ => ?_) (fun _ => ?_) <;> try (exfalso; omega)) | (refine guard_ndec (fun _ => ?_) (fun _ => ?_) <;> try (exfalso; omega)) | (refine branch_dec (fun _ => ?_) (fun _ => ?_) <;> try (exfalso; omega)) | (refine branch_ndec (fun _ => ?_) (fun _ => ?_) <;> try (exfalso; omega)) | refine guard_nbool (fun _ => ?_) (fun _ => ?_) | refine branch_nbool (fun _ => ?_) (fun _ => ?_) | refine guard_bool (fun _ => ?_) (fun _ => ?_) | refine branch_bool (fun _ => ?_) (fun _ => ?_))
            have hcy := few_exprs kfew.out (List.mem_of_getElem? hy)
            have hdy := depth_cnt y
            refine Run.gen fun e2 q2 qd2 _ _ => ?_
            have p4 : e2.get 4 = .ptr (.box h2.boxes.length) 0 := by rw [q2]; simp only [goS, plainEv, resultsEv, resultListEv, reduceIte, Nat.reduceEqDiff, Option.map_some, Option.map_none, Option.bind_some, List.map_cons, List.map_nil, List.getD_cons_zero, List.getD_cons_succ, List.getElem?_toArray, List.getElem?_cons_zero, List.getElem?_cons_succ, eq_self, beq_self_eq_true, goH, q4]
            have p5' : e2.get 5 = .ptr (.box h'.boxes.length) 0 := by rw [q2]; simp only [goS, plainEv, resultsEv, resultListEv, reduceIte, Nat.reduceEqDiff, Option.map_some, Option.map_none, Option.bind_some, List.map_cons, List.map_nil, List.getD_cons_zero, List.getD_cons_succ, List.getElem?_toArray, List.getElem?_cons_zero, List.getElem?_cons_succ, eq_self, beq_self_eq_true, goH]
            have p52 : e2.get 52 = .list tokE 5 rowsE := by rw [q2]; simp only [goS, plainEv, resultsEv, resultListEv, reduceIte, Nat.reduceEqDiff, Option.map_some, Option.map_none, Option.bind_some, List.map_cons, List.map_nil, List.getD_cons_zero, List.getD_cons_succ, List.getElem?_toArray, List.getElem?_cons_zero, List.getElem?_cons_succ, eq_self, beq_self_eq_true, goH, q52]
            have p53 : e2.get 53 = .v (.int .i64 ((p.rules.length + 1 : Nat))) := by rw [q2]; simp only [goS, plainEv, resultsEv, resultListEv, reduceIte, Nat.reduceEqDiff, Option.map_some, Option.map_none, Option.bind_some, List.map_cons, List.map_nil, List.getD_cons_zero, List.getD_cons_succ, List.getElem?_toArray, List.getElem?_cons_zero, List.getElem?_cons_succ, eq_self, beq_self_eq_true, goH, q53]
            have p54 : e2.get 54 = .v (.int .i64 i) := by rw [q2]; simp only [goS, plainEv, resultsEv, resultListEv, reduceIte, Nat.reduceEqDiff, Option.map_some, Option.map_none, Option.bind_some, List.map_cons, List.map_nil, List.getD_cons_zero, List.getD_cons_succ, List.getElem?_toArray, List.getElem?_cons_zero, List.getElem?_cons_succ, eq_self, beq_self_eq_true, goH, q54]
            have p60 : e2.get 60 = .func (.func 67) [] [.ptr (.box (h'.boxes.length + 1 + 1)) 0, .ptr (.box (h'.boxes.length + 1 + 1 + 1)) 0] := by rw [q2]; simp only [goS, plainEv, resultsEv, resultListEv, reduceIte, Nat.reduceEqDiff, Option.map_some, Option.map_none, Option.bind_some, List.map_cons, List.map_nil, List.getD_cons_zero, List.getD_cons_succ, List.getElem?_toArray, List.getElem?_cons_zero, List.getElem?_cons_succ, eq_self, beq_self_eq_true, goH]
            have pd : e2.defers = [] := by rw [qd2]; simp only [goS, plainEv, resultsEv, resultListEv, reduceIte, Nat.reduceEqDiff, Option.map_some, Option.map_none, Option.bind_some, List.map_cons, List.map_nil, List.getD_cons_zero, List.getD_cons_succ, List.getElem?_toArray, List.getElem?_cons_zero, List.getElem?_cons_succ, eq_self, beq_self_eq_true, goH, hd]
            clear q2 qd2 hpf q4 q52 q53 q54 hd
            generalize hS : (((h'.push [.v (.int .i64 (i : Int))]).push (row5 y.kind y.n y.no y.name tk2 sz2 rows2)).push (row5 y.kind y.n y.no y.name tk2 sz2 rows2)).push [.v (.int .i64 1)] = hs
            have xs : Ext h' hs := by rw [← hS]; exact (((Ext.push _ _).trans (.push _ _)).trans (.push _ _)).trans (.push _ _)
            have f0 : hs.boxes[h'.boxes.length]? = some [.v (.int .i64 (i : Int))] := by rw [← hS]; simp (disch := (first | assumption | omega | (exact (push_len _ _).symm) | (simp only [push_len, put_len, len_app]; omega) | (refine Nat.le_antisymm ?_ ?_ <;> simp only [push_len, put_len, len_app] <;> omega) | fail)) only [get_push_last, get_push_eq, get_push_ne, get_put_eq, get_put_ne, get_app]
            have f1 : hs.boxes[h'.boxes.length + 1]? = some (row5 y.kind y.n y.no y.name tk2 sz2 rows2) := by rw [← hS]; simp (disch := (first | assumption | omega | (exact (push_len _ _).symm) | (simp only [push_len, put_len, len_app]; omega) | (refine Nat.le_antisymm ?_ ?_ <;> simp only [push_len, put_len, len_app] <;> omega) | fail)) only [get_push_last, get_push_eq, get_push_ne, get_put_eq, get_put_ne, get_app]
            have f2 : hs.boxes[h'.boxes.length + 1 + 1]? = some (row5 y.kind y.n y.no y.name tk2 sz2 rows2) := by rw [← hS]; simp (disch := (first | assumption | omega | (exact (push_len _ _).symm) | (simp only [push_len, put_len, len_app]; omega) | (refine Nat.le_antisymm ?_ ?_ <;> simp only [push_len, put_len, len_app] <;> omega) | fail)) only [get_push_last, get_push_eq, get_push_ne, get_put_eq, get_put_ne, get_app]
            have f3 : hs.boxes[h'.boxes.length + 1 + 1 + 1]? = some [.v (.int .i64 1)] := by rw [← hS]; simp (disch := (first | assumption | omega | (exact (push_len _ _).symm) | (simp only [push_len, put_len, len_app]; omega) | (refine Nat.le_antisymm ?_ ?_ <;> simp only [push_len, put_len, len_app] <;> omega) | fail)) only [get_push_last, get_push_eq, get_push_ne, get_put_eq, get_put_ne, get_app]
            have kxs := Keep.mk xs
            clear hS xs
            have hup : decide ((i : Int) < (p.rules.length : Int)) = decide (i < p.rules.length) := by rw [decide_eq_decide]; omega
            obtain ⟨up, hupd⟩ : ∃ up, up = decide (i < p.rules.length) := ⟨_, rfl⟩
            have kupd := Keep.mk hupd
            rw [← hupd] at hup
            clear hupd
            refine range_feed (J := fun (_ : Unit) hh => hh.boxes[h2.boxes.length]? = some [.list tokE 5 rowsE] ∧ hh.boxes[h'.boxes.length]? = some [.v (.int .i64 (i : Int))] ∧ h'.boxes.length + 1 < hh.boxes.length) (nextF up) kyr.out (bn := h'.boxes.length + 1) (n0 := h.tn) () p60 f2 f3 (by omega) (by omega) (by omega) (by omega) (Nat.le_trans kx.out.tn kxs.out.tn) ⟨kxs.out.box _ _ hb, f0, (List.getElem?_eq_some_iff.1 f1).1⟩ (fun a h1 h2 ⟨j1, j2, j3⟩ hb => ⟨hb _ _ j1, hb _ _ j2, (by
              obtain ⟨c, hc⟩ : ∃ c, h1.boxes[h'.boxes.length + 1]? = some c := ⟨_, List.getElem?_eq_getElem j3⟩
              exact (List.getElem?_eq_some_iff.1 (hb _ _ hc)).1)⟩) (fun a h1 ⟨j1, j2, j3⟩ => j3) ?_ ?_
            · rintro c hh z tk3 sz3 rows3 dd rec w1 w2 ⟨j1, j2, j3⟩ hz k0 k1 k2
              have t61 : (roundEnv hs.loops.length rec [.agg (row6 z.kind z.n z.no z.name tk3 sz3 rows3 dd)]).get 61 = .agg (row6 z.kind z.n z.no z.name tk3 sz3 rows3 dd) := by rw [roundEnv_get w2 w1]; rfl
              have t4 : (roundEnv hs.loops.length rec [.agg (row6 z.kind z.n z.no z.name tk3 sz3 rows3 dd)]).get 4 = .ptr (.box h2.boxes.length) 0 := by rw [roundEnv_get w2 w1]; exact p4
              have t5 : (roundEnv hs.loops.length rec [.agg (row6 z.kind z.n z.no z.name tk3 sz3 rows3 dd)]).get 5 = .ptr (.box h'.boxes.length) 0 := by rw [roundEnv_get w2 w1]; exact p5'
              have z77 := zc77
              clear w1 w2
              repeat' (first | simp (config := { maxSteps := 4000000 }) (disch := first | assumption | (exact Nat.le_refl _) | omega | (simp only [List.length_cons, List.length_nil, List.length_append, push_len, put_len, len_app] <;> omega) | (simp (disch := (first | assumption | omega | (exact (push_len _ _).symm) | (simp only [push_len, put_len, len_app]; omega) | (refine Nat.le_antisymm ?_ ?_ <;> simp only [push_len, put_len, len_app] <;> omega) | fail)) only [get_push_last, get_push_eq, get_push_ne, get_put_eq, get_put_ne, get_app] <;> first | assumption | rfl) | (simp only [canApp_push, canApp_put]; assumption) | (exact start_round _ _) | (simp only [st_round, dfr_round, pn_round]; first | assumption | exact start_round _ _) | fail) only [goS, plainEv, resultsEv, resultListEv, reduceIte, Nat.reduceEqDiff, Option.map_some, Option.map_none, Option.bind_some, List.map_cons, List.map_nil, List.getD_cons_zero, List.getD_cons_succ, List.getElem?_toArray, List.getElem?_cons_zero, List.getElem?_cons_succ, eq_self, beq_self_eq_true, goH, List.append_nil, List.nil_append, store77, put_push_eq, *] | (refine guard_dec (fun _ => ?_) (fun _ => ?_) <;> try (exfalso; omega)) | (refine guard_ndec (fun _ => ?_) (fun _ => ?_) <;> try (exfalso; omega)) | (refine branch_dec (fun _ => ?_) (fun _ => ?_) <;> try (exfalso; omega)) | (refine branch_ndec (fun _ => ?_) (fun _ => ?_) <;> try (exfalso; omega)) | refine guard_nbool (fun _ => ?_) (fun _ => ?_) | refine branch_nbool (fun _ => ?_) (fun _ => ?_) | refine guard_bool (fun _ => ?_) (fun _ => ?_) | refine branch_bool (fun _ => ?_) (fun _ => ?_))
              refine ⟨by first | trivial | rfl, rfl, Fr.push .., fun rb => ?_⟩
              generalize hB' : (hh.push (row6 z.kind z.n z.no z.name tk3 sz3 rows3 dd)).setLoop hs.loops.length rb = hB
              have g1 : hB.boxes[h2.boxes.length]? = some [.list tokE 5 rowsE] := by rw [← hB']; exact push_old j1
              have g2 : hB.boxes[h'.boxes.length]? = some [.v (.int .i64 (i : Int))] := by rw [← hB']; exact push_old j2
              have g3 : hB.boxes[hh.boxes.length]? = some (row6 z.kind z.n z.no z.name tk3 sz3 rows3 dd) := by rw [← hB']; exact push_last _ _
              have n1 := (List.getElem?_eq_some_iff.1 g1).1
              have n2 := (List.getElem?_eq_some_iff.1 g2).1
              have n3 := (List.getElem?_eq_some_iff.1 g3).1
              have hwk : ∀ h : Heap, W.call 48 [.v (.int .i64 z.kind), .v (.int .i64 1), .v (.int .i64 4)] h = some (.ret (.v (.bool (decide (1 ≤ z.kind) && decide (z.kind ≤ 4)))), h) := within_ev z.kind 1 4
              have hzl : rows3.length = z.l.length := (Row.got hz).1.1
              clear hB'
              have kfin := Keep.mk (show Fr (h'.boxes.length + 1) hs.loops.length h.tn hB (hB.push (row5 z.kind z.n z.no z.name tk3 sz3 rows3)) from Fr.push ..)
              have kfin0 := Keep.mk (show Fr (h'.boxes.length + 1) hs.loops.length h.tn hB hB from Fr.refl ..)
              have kg1 := Keep.mk g1
              have kg2 := Keep.mk g2
              have kj3 := Keep.mk (show h'.boxes.length + 1 < hB.boxes.length + 1 by omega)
              clear j3
              unfold nextF
              cases e1 : (decide (1 ≤ z.kind) && decide (z.kind ≤ 4)) with
              | false =>
                rw [e1] at hwk
                have hno : formB z.kind z.n z.name z.l.length up = false := by
                  rw [Bool.eq_false_iff]
                  intro q
                  have := formB_kind q
                  simp only [Bool.and_eq_false_iff, decide_eq_false_iff_not] at e1
                  omega
                rw [hno]
                clear hno
                simp only [Bool.false_eq_true, if_false]
                repeat' (first | simp (config := { maxSteps := 4000000 }) (disch := first | assumption | (exact Nat.le_refl _) | omega | (simp only [List.length_cons, List.length_nil, List.length_append, push_len, put_len, len_app] <;> omega) | (simp (disch := (first | assumption | omega | (exact (push_len _ _).symm) | (simp only [push_len, put_len, len_app]; omega) | (refine Nat.le_antisymm ?_ ?_ <;> simp only [push_len, put_len, len_app] <;> omega) | fail)) only [get_push_last, get_push_eq, get_push_ne, get_put_eq, get_put_ne, get_app] <;> first | assumption | rfl) | (simp only [canApp_push, canApp_put]; assumption) | (exact start_round _ _) | (simp only [st_round, dfr_round, pn_round]; first | assumption | exact start_round _ _) | fail) only [goS, plainEv, resultsEv, resultListEv, reduceIte, Nat.reduceEqDiff, Option.map_some, Option.map_none, Option.bind_some, List.map_cons, List.map_nil, List.getD_cons_zero, List.getD_cons_succ, List.getElem?_toArray, List.getElem?_cons_zero, List.getElem?_cons_succ, eq_self, beq_self_eq_true, goH, List.append_nil, List.nil_append, load77_x, row6s, cell_one, *] | (refine guard_dec (fun _ => ?_) (fun _ => ?_) <;> try (exfalso; omega)) | (refine guard_ndec (fun _ => ?_) (fun _ => ?_) <;> try (exfalso; omega)) | (refine branch_dec (fun _ => ?_) (fun _ => ?_) <;> try (exfalso; omega)) | (refine branch_ndec (fun _ => ?_) (fun _ => ?_) <;> try (exfalso; omega)) | refine guard_nbool (fun _ => ?_) (fun _ => ?_) | refine branch_nbool (fun _ => ?_) (fun _ => ?_) | refine guard_bool (fun _ => ?_) (fun _ => ?_) | refine branch_bool (fun _ => ?_) (fun _ => ?_))
                refine run_draw_last (n := 14) rfl (by kernel_rfl) (by kernel_rfl) (by kernel_rfl) ?_
                simp only [List.take_succ_cons, List.take_zero, List.drop_succ_cons, List.drop_zero]
                repeat' (first | simp (config := { maxSteps := 4000000 }) (disch := first | assumption | (exact Nat.le_refl _) | omega | (simp only [List.length_cons, List.length_nil, List.length_append, push_len, put_len, len_app] <;> omega) | (simp (disch := (first | assumption | omega | (exact (push_len _ _).symm) | (simp only [push_len, put_len, len_app]; omega) | (refine Nat.le_antisymm ?_ ?_ <;> simp only [push_len, put_len, len_app] <;> omega) | fail)) only [get_push_last, get_push_eq, get_push_ne, get_put_eq, get_put_ne, get_app] <;> first | assumption | rfl) | (simp only [canApp_push, canApp_put]; assumption) | (exact start_round _ _) | (simp only [st_round, dfr_round, pn_round]; first | assumption | exact start_round _ _) | fail) only [goS, plainEv, resultsEv, resultListEv, reduceIte, Nat.reduceEqDiff, Option.map_some, Option.map_none, Option.bind_some, List.map_cons, List.map_nil, List.getD_cons_zero, List.getD_cons_succ, List.getElem?_toArray, List.getElem?_cons_zero, List.getElem?_cons_succ, eq_self, beq_self_eq_true, goH, List.append_nil, List.nil_append, load77_x, row6s, cell_one, fa26_0, must_ok, must_bad, lastQ_normal, tailQ_normal, tailQ_panic, *] | (refine guard_dec (fun _ => ?_) (fun _ => ?_) <;> try (exfalso; omega)) | (refine guard_ndec (fun _ => ?_) (fun _ => ?_) <;> try (exfalso; omega)) | (refine branch_dec (fun _ => ?_) (fun _ => ?_) <;> try (exfalso; omega)) | (refine branch_ndec (fun _ => ?_) (fun _ => ?_) <;> try (exfalso; omega)) | refine guard_nbool (fun _ => ?_) (fun _ => ?_) | refine branch_nbool (fun _ => ?_) (fun _ => ?_) | refine guard_bool (fun _ => ?_) (fun _ => ?_) | refine branch_bool (fun _ => ?_) (fun _ => ?_))
                exact ⟨kfin0.out, fun _ _ h => h, rfl⟩
              | true =>
                rw [e1] at hwk
                have hk4 : z.kind = 1 ∨ z.kind = 2 ∨ z.kind = 3 ∨ z.kind = 4 := by
                  simp only [Bool.and_eq_true, decide_eq_true_eq] at e1
                  omega
                obtain ⟨g, c1, c2, c3⟩ := kind_call z tk3 sz3 rows3 hzl hk4
                clear hk4 e1
                rw [formB_up]
                cases e2 : formB z.kind z.n z.name z.l.length true with
                | false =>
                  rw [e2] at c3
                  simp only [Bool.false_and, Bool.false_eq_true, if_false]
                  repeat' (first | simp (config := { maxSteps := 4000000 }) (disch := first | assumption | (exact Nat.le_refl _) | omega | (simp only [List.length_cons, List.length_nil, List.length_append, push_len, put_len, len_app] <;> omega) | (simp (disch := (first | assumption | omega | (exact (push_len _ _).symm) | (simp only [push_len, put_len, len_app]; omega) | (refine Nat.le_antisymm ?_ ?_ <;> simp only [push_len, put_len, len_app] <;> omega) | fail)) only [get_push_last, get_push_eq, get_push_ne, get_put_eq, get_put_ne, get_app] <;> first | assumption | rfl) | (simp only [canApp_push, canApp_put]; assumption) | (exact start_round _ _) | (simp only [st_round, dfr_round, pn_round]; first | assumption | exact start_round _ _) | fail) only [goS, plainEv, resultsEv, resultListEv, reduceIte, Nat.reduceEqDiff, Option.map_some, Option.map_none, Option.bind_some, List.map_cons, List.map_nil, List.getD_cons_zero, List.getD_cons_succ, List.getElem?_toArray, List.getElem?_cons_zero, List.getElem?_cons_succ, eq_self, beq_self_eq_true, goH, List.append_nil, List.nil_append, load77_x, row6s, cell_one, *] | (refine guard_dec (fun _ => ?_) (fun _ => ?_) <;> try (exfalso; omega)) | (refine guard_ndec (fun _ => ?_) (fun _ => ?_) <;> try (exfalso; omega)) | (refine branch_dec (fun _ => ?_) (fun _ => ?_) <;> try (exfalso; omega)) | (refine branch_ndec (fun _ => ?_) (fun _ => ?_) <;> try (exfalso; omega)) | refine guard_nbool (fun _ => ?_) (fun _ => ?_) | refine branch_nbool (fun _ => ?_) (fun _ => ?_) | refine guard_bool (fun _ => ?_) (fun _ => ?_) | refine branch_bool (fun _ => ?_) (fun _ => ?_))
                  refine run_draw_last (n := 14) rfl (by kernel_rfl) (by kernel_rfl) (by kernel_rfl) ?_
                  simp only [List.take_succ_cons, List.take_zero, List.drop_succ_cons, List.drop_zero]
                  repeat' (first | simp (config := { maxSteps := 4000000 }) (disch := first | assumption | (exact Nat.le_refl _) | omega | (simp only [List.length_cons, List.length_nil, List.length_append, push_len, put_len, len_app] <;> omega) | (simp (disch := (first | assumption | omega | (exact (push_len _ _).symm) | (simp only [push_len, put_len, len_app]; omega) | (refine Nat.le_antisymm ?_ ?_ <;> simp only [push_len, put_len, len_app] <;> omega) | fail)) only [get_push_last, get_push_eq, get_push_ne, get_put_eq, get_put_ne, get_app] <;> first | assumption | rfl) | (simp only [canApp_push, canApp_put]; assumption) | (exact start_round _ _) | (simp only [st_round, dfr_round, pn_round]; first | assumption | exact start_round _ _) | fail) only [goS, plainEv, resultsEv, resultListEv, reduceIte, Nat.reduceEqDiff, Option.map_some, Option.map_none, Option.bind_some, List.map_cons, List.map_nil, List.getD_cons_zero, List.getD_cons_succ, List.getElem?_toArray, List.getElem?_cons_zero, List.getElem?_cons_succ, eq_self, beq_self_eq_true, goH, List.append_nil, List.nil_append, load77_x, row6s, cell_one, fa26_0, must_ok, must_bad, lastQ_normal, tailQ_normal, tailQ_panic, *] | (refine guard_dec (fun _ => ?_) (fun _ => ?_) <;> try (exfalso; omega)) | (refine guard_ndec (fun _ => ?_) (fun _ => ?_) <;> try (exfalso; omega)) | (refine branch_dec (fun _ => ?_) (fun _ => ?_) <;> try (exfalso; omega)) | (refine branch_ndec (fun _ => ?_) (fun _ => ?_) <;> try (exfalso; omega)) | refine guard_nbool (fun _ => ?_) (fun _ => ?_) | refine branch_nbool (fun _ => ?_) (fun _ => ?_) | refine guard_bool (fun _ => ?_) (fun _ => ?_) | refine branch_bool (fun _ => ?_) (fun _ => ?_))
                  exact ⟨kfin.out, fun _ _ h => h, rfl⟩
                | true =>
                  rw [e2] at c3
                  simp only [Bool.true_and]
                  have hli : (rowsE.length : Int) - 1 = (p.rules.length : Int) := by rw [hlE, hexl]; omega
                  have hli2 : (((p.rules.length + 1 : Nat) : Int)) - 1 = (p.rules.length : Int) := by omega
                  cases e3 : up with
                  | true =>
                    rw [e3] at hup
                    simp only [Bool.true_or, if_true]
                    repeat' (first | simp (config := { maxSteps := 4000000 }) (disch := first | assumption | (exact Nat.le_refl _) | omega | (simp only [List.length_cons, List.length_nil, List.length_append, push_len, put_len, len_app] <;> omega) | (simp (disch := (first | assumption | omega | (exact (push_len _ _).symm) | (simp only [push_len, put_len, len_app]; omega) | (refine Nat.le_antisymm ?_ ?_ <;> simp only [push_len, put_len, len_app] <;> omega) | fail)) only [get_push_last, get_push_eq, get_push_ne, get_put_eq, get_put_ne, get_app] <;> first | assumption | rfl) | (simp only [canApp_push, canApp_put]; assumption) | (exact start_round _ _) | (simp only [st_round, dfr_round, pn_round]; first | assumption | exact start_round _ _) | fail) only [goS, plainEv, resultsEv, resultListEv, reduceIte, Nat.reduceEqDiff, Option.map_some, Option.map_none, Option.bind_some, List.map_cons, List.map_nil, List.getD_cons_zero, List.getD_cons_succ, List.getElem?_toArray, List.getElem?_cons_zero, List.getElem?_cons_succ, eq_self, beq_self_eq_true, goH, List.append_nil, List.nil_append, load77_x, row6s, cell_one, *] | (refine guard_dec (fun _ => ?_) (fun _ => ?_) <;> try (exfalso; omega)) | (refine guard_ndec (fun _ => ?_) (fun _ => ?_) <;> try (exfalso; omega)) | (refine branch_dec (fun _ => ?_) (fun _ => ?_) <;> try (exfalso; omega)) | (refine branch_ndec (fun _ => ?_) (fun _ => ?_) <;> try (exfalso; omega)) | refine guard_nbool (fun _ => ?_) (fun _ => ?_) | refine branch_nbool (fun _ => ?_) (fun _ => ?_) | refine guard_bool (fun _ => ?_) (fun _ => ?_) | refine branch_bool (fun _ => ?_) (fun _ => ?_))
                    refine run_draw_last (n := 14) rfl (by kernel_rfl) (by kernel_rfl) (by kernel_rfl) ?_
                    simp only [List.take_succ_cons, List.take_zero, List.drop_succ_cons, List.drop_zero]
                    repeat' (first | simp (config := { maxSteps := 4000000 }) (disch := first | assumption | (exact Nat.le_refl _) | omega | (simp only [List.length_cons, List.length_nil, List.length_append, push_len, put_len, len_app] <;> omega) | (simp (disch := (first | assumption | omega | (exact (push_len _ _).symm) | (simp only [push_len, put_len, len_app]; omega) | (refine Nat.le_antisymm ?_ ?_ <;> simp only [push_len, put_len, len_app] <;> omega) | fail)) only [get_push_last, get_push_eq, get_push_ne, get_put_eq, get_put_ne, get_app] <;> first | assumption | rfl) | (simp only [canApp_push, canApp_put]; assumption) | (exact start_round _ _) | (simp only [st_round, dfr_round, pn_round]; first | assumption | exact start_round _ _) | fail) only [goS, plainEv, resultsEv, resultListEv, reduceIte, Nat.reduceEqDiff, Option.map_some, Option.map_none, Option.bind_some, List.map_cons, List.map_nil, List.getD_cons_zero, List.getD_cons_succ, List.getElem?_toArray, List.getElem?_cons_zero, List.getElem?_cons_succ, eq_self, beq_self_eq_true, goH, List.append_nil, List.nil_append, load77_x, row6s, cell_one, fa26_0, must_ok, must_bad, lastQ_normal, tailQ_normal, tailQ_panic, *] | (refine guard_dec (fun _ => ?_) (fun _ => ?_) <;> try (exfalso; omega)) | (refine guard_ndec (fun _ => ?_) (fun _ => ?_) <;> try (exfalso; omega)) | (refine branch_dec (fun _ => ?_) (fun _ => ?_) <;> try (exfalso; omega)) | (refine branch_ndec (fun _ => ?_) (fun _ => ?_) <;> try (exfalso; omega)) | refine guard_nbool (fun _ => ?_) (fun _ => ?_) | refine branch_nbool (fun _ => ?_) (fun _ => ?_) | refine guard_bool (fun _ => ?_) (fun _ => ?_) | refine branch_bool (fun _ => ?_) (fun _ => ?_))
                    exact ⟨kfin.out, fun _ _ h => h, rfl, push_old kg1.out, push_old kg2.out, by rw [push_len]; exact kj3.out⟩
                  | false =>
                    rw [e3] at hup
                    simp only [Bool.false_or]
                    cases e4 : decide (z.kind = 4) with
                    | true =>
                      simp only [Bool.not_true, Bool.false_eq_true, if_false]
                      repeat' (first | simp (config := { maxSteps := 4000000 }) (disch := first | assumption | (exact Nat.le_refl _) | omega | (simp only [List.length_cons, List.length_nil, List.length_append, push_len, put_len, len_app] <;> omega) | (simp (disch := (first | assumption | omega | (exact (push_len _ _).symm) | (simp only [push_len, put_len, len_app]; omega) | (refine Nat.le_antisymm ?_ ?_ <;> simp only [push_len, put_len, len_app] <;> omega) | fail)) only [get_push_last, get_push_eq, get_push_ne, get_put_eq, get_put_ne, get_app] <;> first | assumption | rfl) | (simp only [canApp_push, canApp_put]; assumption) | (exact start_round _ _) | (simp only [st_round, dfr_round, pn_round]; first | assumption | exact start_round _ _) | fail) only [goS, plainEv, resultsEv, resultListEv, reduceIte, Nat.reduceEqDiff, Option.map_some, Option.map_none, Option.bind_some, List.map_cons, List.map_nil, List.getD_cons_zero, List.getD_cons_succ, List.getElem?_toArray, List.getElem?_cons_zero, List.getElem?_cons_succ, eq_self, beq_self_eq_true, goH, List.append_nil, List.nil_append, load77_x, row6s, cell_one, *] | (refine guard_dec (fun _ => ?_) (fun _ => ?_) <;> try (exfalso; omega)) | (refine guard_ndec (fun _ => ?_) (fun _ => ?_) <;> try (exfalso; omega)) | (refine branch_dec (fun _ => ?_) (fun _ => ?_) <;> try (exfalso; omega)) | (refine branch_ndec (fun _ => ?_) (fun _ => ?_) <;> try (exfalso; omega)) | refine guard_nbool (fun _ => ?_) (fun _ => ?_) | refine branch_nbool (fun _ => ?_) (fun _ => ?_) | refine guard_bool (fun _ => ?_) (fun _ => ?_) | refine branch_bool (fun _ => ?_) (fun _ => ?_))
                      refine run_draw_last (n := 14) rfl (by kernel_rfl) (by kernel_rfl) (by kernel_rfl) ?_
                      simp only [List.take_succ_cons, List.take_zero, List.drop_succ_cons, List.drop_zero]
                      repeat' (first | simp (config := { maxSteps := 4000000 }) (disch := first | assumption | (exact Nat.le_refl _) | omega | (simp only [List.length_cons, List.length_nil, List.length_append, push_len, put_len, len_app] <;> omega) | (simp (disch := (first | assumption | omega | (exact (push_len _ _).symm) | (simp only [push_len, put_len, len_app]; omega) | (refine Nat.le_antisymm ?_ ?_ <;> simp only [push_len, put_len, len_app] <;> omega) | fail)) only [get_push_last, get_push_eq, get_push_ne, get_put_eq, get_put_ne, get_app] <;> first | assumption | rfl) | (simp only [canApp_push, canApp_put]; assumption) | (exact start_round _ _) | (simp only [st_round, dfr_round, pn_round]; first | assumption | exact start_round _ _) | fail) only [goS, plainEv, resultsEv, resultListEv, reduceIte, Nat.reduceEqDiff, Option.map_some, Option.map_none, Option.bind_some, List.map_cons, List.map_nil, List.getD_cons_zero, List.getD_cons_succ, List.getElem?_toArray, List.getElem?_cons_zero, List.getElem?_cons_succ, eq_self, beq_self_eq_true, goH, List.append_nil, List.nil_append, load77_x, row6s, cell_one, fa26_0, must_ok, must_bad, lastQ_normal, tailQ_normal, tailQ_panic, *] | (refine guard_dec (fun _ => ?_) (fun _ => ?_) <;> try (exfalso; omega)) | (refine guard_ndec (fun _ => ?_) (fun _ => ?_) <;> try (exfalso; omega)) | (refine branch_dec (fun _ => ?_) (fun _ => ?_) <;> try (exfalso; omega)) | (refine branch_ndec (fun _ => ?_) (fun _ => ?_) <;> try (exfalso; omega)) | refine guard_nbool (fun _ => ?_) (fun _ => ?_) | refine branch_nbool (fun _ => ?_) (fun _ => ?_) | refine guard_bool (fun _ => ?_) (fun _ => ?_) | refine branch_bool (fun _ => ?_) (fun _ => ?_))
                      exact ⟨kfin.out, fun _ _ h => h, rfl⟩
                    | false =>
                      simp only [Bool.not_false, if_true]
                      repeat' (first | simp (config := { maxSteps := 4000000 }) (disch := first | assumption | (exact Nat.le_refl _) | omega | (simp only [List.length_cons, List.length_nil, List.length_append, push_len, put_len, len_app] <;> omega) | (simp (disch := (first | assumption | omega | (exact (push_len _ _).symm) | (simp only [push_len, put_len, len_app]; omega) | (refine Nat.le_antisymm ?_ ?_ <;> simp only [push_len, put_len, len_app] <;> omega) | fail)) only [get_push_last, get_push_eq, get_push_ne, get_put_eq, get_put_ne, get_app] <;> first | assumption | rfl) | (simp only [canApp_push, canApp_put]; assumption) | (exact start_round _ _) | (simp only [st_round, dfr_round, pn_round]; first | assumption | exact start_round _ _) | fail) only [goS, plainEv, resultsEv, resultListEv, reduceIte, Nat.reduceEqDiff, Option.map_some, Option.map_none, Option.bind_some, List.map_cons, List.map_nil, List.getD_cons_zero, List.getD_cons_succ, List.getElem?_toArray, List.getElem?_cons_zero, List.getElem?_cons_succ, eq_self, beq_self_eq_true, goH, List.append_nil, List.nil_append, load77_x, row6s, cell_one, *] | (refine guard_dec (fun _ => ?_) (fun _ => ?_) <;> try (exfalso; omega)) | (refine guard_ndec (fun _ => ?_) (fun _ => ?_) <;> try (exfalso; omega)) | (refine branch_dec (fun _ => ?_) (fun _ => ?_) <;> try (exfalso; omega)) | (refine branch_ndec (fun _ => ?_) (fun _ => ?_) <;> try (exfalso; omega)) | refine guard_nbool (fun _ => ?_) (fun _ => ?_) | refine branch_nbool (fun _ => ?_) (fun _ => ?_) | refine guard_bool (fun _ => ?_) (fun _ => ?_) | refine branch_bool (fun _ => ?_) (fun _ => ?_))
                      refine run_draw_last (n := 14) rfl (by kernel_rfl) (by kernel_rfl) (by kernel_rfl) ?_
                      simp only [List.take_succ_cons, List.take_zero, List.drop_succ_cons, List.drop_zero]
                      repeat' (first | simp (config := { maxSteps := 4000000 }) (disch := first | assumption | (exact Nat.le_refl _) | omega | (simp only [List.length_cons, List.length_nil, List.length_append, push_len, put_len, len_app] <;> omega) | (simp (disch := (first | assumption | omega | (exact (push_len _ _).symm) | (simp only [push_len, put_len, len_app]; omega) | (refine Nat.le_antisymm ?_ ?_ <;> simp only [push_len, put_len, len_app] <;> omega) | fail)) only [get_push_last, get_push_eq, get_push_ne, get_put_eq, get_put_ne, get_app] <;> first | assumption | rfl) | (simp only [canApp_push, canApp_put]; assumption) | (exact start_round _ _) | (simp only [st_round, dfr_round, pn_round]; first | assumption | exact start_round _ _) | fail) only [goS, plainEv, resultsEv, resultListEv, reduceIte, Nat.reduceEqDiff, Option.map_some, Option.map_none, Option.bind_some, List.map_cons, List.map_nil, List.getD_cons_zero, List.getD_cons_succ, List.getElem?_toArray, List.getElem?_cons_zero, List.getElem?_cons_succ, eq_self, beq_self_eq_true, goH, List.append_nil, List.nil_append, load77_x, row6s, cell_one, fa26_0, must_ok, must_bad, lastQ_normal, tailQ_normal, tailQ_panic, *] | (refine guard_dec (fun _ => ?_) (fun _ => ?_) <;> try (exfalso; omega)) | (refine guard_ndec (fun _ => ?_) (fun _ => ?_) <;> try (exfalso; omega)) | (refine branch_dec (fun _ => ?_) (fun _ => ?_) <;> try (exfalso; omega)) | (refine branch_ndec (fun _ => ?_) (fun _ => ?_) <;> try (exfalso; omega)) | refine guard_nbool (fun _ => ?_) (fun _ => ?_) | refine branch_nbool (fun _ => ?_) (fun _ => ?_) | refine guard_bool (fun _ => ?_) (fun _ => ?_) | refine branch_bool (fun _ => ?_) (fun _ => ?_))
                      exact ⟨kfin.out, fun _ _ h => h, rfl, push_old kg1.out, push_old kg2.out, by rw [push_len]; exact kj3.out⟩
            · rw [feedF]
              cases hlg : formedE up y with
              | false =>
                simp only [Bool.false_eq_true, if_false]
                intro h3 hf3
                have hsm : formedP p = false := by
                  rw [Bool.eq_false_iff]
                  intro q
                  have := (formed_iff.1 q).2.2.2.2 i y hy
                  rw [← kupd.out, hlg] at this; cases this
                have kfin := Keep.mk (kbadF.out hsm _ (Ext.fr (kx.out.trans kxs.out) hf3 (by have := k2.out.len; have := kx.out.len; omega) ((kx.out.trans kxs.out).llen) (Nat.le_refl _)))
                clear hsm
                repeat' (first | simp (config := { maxSteps := 4000000 }) (disch := first | assumption | (exact Nat.le_refl _) | omega | (simp only [List.length_cons, List.length_nil, List.length_append, push_len, put_len, len_app] <;> omega) | (simp (disch := (first | assumption | omega | (exact (push_len _ _).symm) | (simp only [push_len, put_len, len_app]; omega) | (refine Nat.le_antisymm ?_ ?_ <;> simp only [push_len, put_len, len_app] <;> omega) | fail)) only [get_push_last, get_push_eq, get_push_ne, get_put_eq, get_put_ne, get_app] <;> first | assumption | rfl) | (simp only [canApp_push, canApp_put]; assumption) | (exact start_round _ _) | (simp only [st_round, dfr_round, pn_round]; first | assumption | exact start_round _ _) | fail) only [goS, plainEv, resultsEv, resultListEv, reduceIte, Nat.reduceEqDiff, Option.map_some, Option.map_none, Option.bind_some, List.map_cons, List.map_nil, List.getD_cons_zero, List.getD_cons_succ, List.getElem?_toArray, List.getElem?_cons_zero, List.getElem?_cons_succ, eq_self, beq_self_eq_true, goH, List.append_nil, List.nil_append, res39, *] | (refine guard_dec (fun _ => ?_) (fun _ => ?_) <;> try (exfalso; omega)) | (refine guard_ndec (fun _ => ?_) (fun _ => ?_) <;> try (exfalso; omega)) | (refine branch_dec (fun _ => ?_) (fun _ => ?_) <;> try (exfalso; omega)) | (refine branch_ndec (fun _ => ?_) (fun _ => ?_) <;> try (exfalso; omega)) | refine guard_nbool (fun _ => ?_) (fun _ => ?_) | refine branch_nbool (fun _ => ?_) (fun _ => ?_) | refine guard_bool (fun _ => ?_) (fun _ => ?_) | refine branch_bool (fun _ => ?_) (fun _ => ?_))
                exact kfin.out
              | true =>
                simp only [if_true]
                intro h3 hf3 _
                have x3 := Keep.mk (Ext.fr (kx.out.trans kxs.out) hf3 (by have := k2.out.len; have := kx.out.len; omega) ((kx.out.trans kxs.out).llen) (Nat.le_refl _))
                have hb3 := hf3.box h2.boxes.length _ (by omega) (kxs.out.box _ _ hb)
                have klg := Keep.mk hlg
                clear hf3 hlg
                repeat' (first | simp (config := { maxSteps := 4000000 }) (disch := first | assumption | (exact Nat.le_refl _) | omega | (simp only [List.length_cons, List.length_nil, List.length_append, push_len, put_len, len_app] <;> omega) | (simp (disch := (first | assumption | omega | (exact (push_len _ _).symm) | (simp only [push_len, put_len, len_app]; omega) | (refine Nat.le_antisymm ?_ ?_ <;> simp only [push_len, put_len, len_app] <;> omega) | fail)) only [get_push_last, get_push_eq, get_push_ne, get_put_eq, get_put_ne, get_app] <;> first | assumption | rfl) | (simp only [canApp_push, canApp_put]; assumption) | (exact start_round _ _) | (simp only [st_round, dfr_round, pn_round]; first | assumption | exact start_round _ _) | fail) only [goS, plainEv, resultsEv, resultListEv, reduceIte, Nat.reduceEqDiff, Option.map_some, Option.map_none, Option.bind_some, List.map_cons, List.map_nil, List.getD_cons_zero, List.getD_cons_succ, List.getElem?_toArray, List.getElem?_cons_zero, List.getElem?_cons_succ, eq_self, beq_self_eq_true, goH, List.append_nil, List.nil_append, res39, *] | (refine guard_dec (fun _ => ?_) (fun _ => ?_) <;> try (exfalso; omega)) | (refine guard_ndec (fun _ => ?_) (fun _ => ?_) <;> try (exfalso; omega)) | (refine branch_dec (fun _ => ?_) (fun _ => ?_) <;> try (exfalso; omega)) | (refine branch_ndec (fun _ => ?_) (fun _ => ?_) <;> try (exfalso; omega)) | refine guard_nbool (fun _ => ?_) (fun _ => ?_) | refine branch_nbool (fun _ => ?_) (fun _ => ?_) | refine guard_bool (fun _ => ?_) (fun _ => ?_) | refine branch_bool (fun _ => ?_) (fun _ => ?_))
                refine ⟨p.rules.length + 1 - (i + 1), by omega, i + 1, by omega, rfl, (by first | trivial | (simp; done) | (simp; omega)), (by first | trivial | (simp; done) | (simp; omega)), (by first | trivial | (simp; done) | (simp; omega)), (by first | trivial | (simp; done) | (simp; omega)), (by first | trivial | (simp; done) | (simp; omega)), x3.out, (by first | exact hb3 | trivial), fun j x hj hx => ?_⟩
                rcases Nat.lt_or_ge j i with w | w
                · exact kno.out j x w hx
                · have : j = i := by omega
                  subst this
                  rw [hy] at hx; injection hx with hx; subst hx
                  rw [← kupd.out]; exact klg.out
          · have hie : i = (exprs p).length := by omega
            subst hie
            have hlt4 : ¬ (((exprs p).length : Int) < ((p.rules.length + 1 : Nat) : Int)) := by omega
            repeat' (first | simp (config := { maxSteps := 4000000 }) (disch := first | assumption | (exact Nat.le_refl _) | omega | (simp only [List.length_cons, List.length_nil, List.length_append, push_len, put_len, len_app] <;> omega) | (simp (disch := (first | assumption | omega | (exact (push_len _ _).symm) | (simp only [push_len, put_len, len_app]; omega) | (refine Nat.le_antisymm ?_ ?_ <;> simp only [push_len, put_len, len_app] <;> omega) | fail)) only [get_push_last, get_push_eq, get_push_ne, get_put_eq, get_put_ne, get_app] <;> first | assumption | rfl) | (simp only [canApp_push, canApp_put]; assumption) | (exact start_round _ _) | (simp only [st_round, dfr_round, pn_round]; first | assumption | exact start_round _ _) | fail) only [goS, plainEv, resultsEv, resultListEv, reduceIte, Nat.reduceEqDiff, Option.map_some, Option.map_none, Option.bind_some, List.map_cons, List.map_nil, List.getD_cons_zero, List.getD_cons_succ, List.getElem?_toArray, List.getElem?_cons_zero, List.getElem?_cons_succ, eq_self, beq_self_eq_true, goH, List.append_nil, List.nil_append, res39, *] | (refine guard_dec (fun _ => ?_) (fun _ => ?_) <;> try (exfalso; omega)) | (refine guard_ndec (fun _ => ?_) (fun _ => ?_) <;> try (exfalso; omega)) | (refine branch_dec (fun _ => ?_) (fun _ => ?_) <;> try (exfalso; omega)) | (refine branch_ndec (fun _ => ?_) (fun _ => ?_) <;> try (exfalso; omega)) | refine guard_nbool (fun _ => ?_) (fun _ => ?_) | refine branch_nbool (fun _ => ?_) (fun _ => ?_) | refine guard_bool (fun _ => ?_) (fun _ => ?_) | refine branch_bool (fun _ => ?_) (fun _ => ?_))
            refine ⟨_, _, rfl, ?_, kx.out⟩
            rw [if_pos (formed_iff.2 ⟨kgood.out.1, kgood.out.2.1, kgood.out.2.2, kheads.out, fun j y hy => kno.out j y (List.getElem?_eq_some_iff.1 hy).1 hy⟩)]
        · refine ⟨0, Nat.zero_le _, rfl, ?_, ?_, ?_, ?_, ?_, k2.out.trans (.push _ _), push_last _ _, fun j y hj => absurd hj (Nat.not_lt_zero j)⟩ <;> (try simp only [goS, plainEv, resultsEv, resultListEv, reduceIte, Nat.reduceEqDiff, Option.map_some, Option.map_none, Option.bind_some, List.map_cons, List.map_nil, List.getD_cons_zero, List.getD_cons_succ, List.getElem?_toArray, List.getElem?_cons_zero, List.getElem?_cons_succ, eq_self, beq_self_eq_true, goH, hd]) <;> rfl
    · refine ⟨0, Nat.zero_le _, rfl, ?_, ?_, ?_, ?_, ?_, kx0.out, kokh.out, push_last _ _, fun j x hj => absurd hj (Nat.not_lt_zero j)⟩ <;> simp only [goS, plainEv, resultsEv, resultListEv, reduceIte, Nat.reduceEqDiff, Option.map_some, Option.map_none, Option.bind_some, List.map_cons, List.map_nil, List.getD_cons_zero, List.getD_cons_succ, List.getElem?_toArray, List.getElem?_cons_zero, List.getElem?_cons_succ, eq_self, beq_self_eq_true, goH] <;> rfl
  · have kbad := Keep.mk hgood
    clear hgood
    have hsm : formedP p = false := by
      rw [Bool.eq_false_iff]
      intro q
      have := formed_iff.1 q
      exact kbad.out ⟨this.1, this.2.1, this.2.2.1⟩
    have kfin := Keep.mk (kbadF.out hsm)
    clear hsm
    cases e1 : decide ((0 : Int) < (p.kinds.length : Int)) <;> cases e2 : decide ((p.rules.length : Int) = (p.kinds.length : Int)) <;> cases e3 : (decide (1 ≤ p.mode) && decide (p.mode ≤ 4))
    all_goals
      first
      | (exfalso; have e1' := of_decide_eq_true e1; have e2' := of_decide_eq_true e2; exact kbad.out ⟨by omega, by omega, e3⟩)
      | (rw [e3] at hwm
         repeat' (first | simp (config := { maxSteps := 4000000 }) (disch := first | assumption | (exact Nat.le_refl _) | omega | (simp only [List.length_cons, List.length_nil, List.length_append, push_len, put_len, len_app] <;> omega) | (simp (disch := (first | assumption | omega | (exact (push_len _ _).symm) | (simp only [push_len, put_len, len_app]; omega) | (refine Nat.le_antisymm ?_ ?_ <;> simp only [push_len, put_len, len_app] <;> omega) | fail)) only [get_push_last, get_push_eq, get_push_ne, get_put_eq, get_put_ne, get_app] <;> first | assumption | rfl) | (simp only [canApp_push, canApp_put]; assumption) | (exact start_round _ _) | (simp only [st_round, dfr_round, pn_round]; first | assumption | exact start_round _ _) | fail) only [goS, plainEv, resultsEv, resultListEv, reduceIte, Nat.reduceEqDiff, Option.map_some, Option.map_none, Option.bind_some, List.map_cons, List.map_nil, List.getD_cons_zero, List.getD_cons_succ, List.getElem?_toArray, List.getElem?_cons_zero, List.getElem?_cons_succ, eq_self, beq_self_eq_true, goH, List.append_nil, List.nil_append, res39, fp28, fp43, prs, rrs, load28, push_len, strs_len, must_ok, must_bad, *] | (refine guard_dec (fun _ => ?_) (fun _ => ?_) <;> try (exfalso; omega)) | (refine guard_ndec (fun _ => ?_) (fun _ => ?_) <;> try (exfalso; omega)) | (refine branch_dec (fun _ => ?_) (fun _ => ?_) <;> try (exfalso; omega)) | (refine branch_ndec (fun _ => ?_) (fun _ => ?_) <;> try (exfalso; omega)) | refine guard_nbool (fun _ => ?_) (fun _ => ?_) | refine branch_nbool (fun _ => ?_) (fun _ => ?_) | refine guard_bool (fun _ => ?_) (fun _ => ?_) | refine branch_bool (fun _ => ?_) (fun _ => ?_))
         all_goals exact kfin.out _ kx0.out)
end Go.Proofs.YtilmhlbjjfgeoaaDoor
end

section
namespace Go.Proofs.YtilmhlbjjfgeoaaDoor
open Go.AE Go.Lex Go.Pol
/-! ### attempt's deferred function; resolved -/
theorem res52 : Tryd.f52.results.toList = [] := by kernel_rfl
theorem res47 : Tryd.f47.results.toList = [.cell 4 4] := by kernel_rfl
theorem as69 (x : List AV) : assertEv Tryd.prog (.iface 69 (.agg x)) 69 true = some (.tuple [.agg x, .v (.bool true)]) := by kernel_rfl
theorem ii20 : isIface Tryd.prog 20 = some true := by kernel_rfl
theorem zc69 : (zeroA Tryd.prog 69).bind AV.cellsO = some [.v (.int .i64 0)] := by kernel_rfl
theorem zc31 : (zeroA Tryd.prog 31).bind AV.cellsO = some [.v (.int .i64 0)] := by kernel_rfl
theorem zc4 : (zeroA Tryd.prog 4).bind AV.cellsO = some [.v (.bool false)] := by kernel_rfl
theorem sz31 : sizeB Tryd.prog 31 = some 1 := by kernel_rfl
theorem sz4 : sizeB Tryd.prog 4 = some 1 := by kernel_rfl
theorem ag31 : isAggB Tryd.prog 31 = some false := by kernel_rfl
theorem ag4 : isAggB Tryd.prog 4 = some false := by kernel_rfl
theorem sz69 : sizeB Tryd.prog 69 = some 1 := by kernel_rfl
theorem fa69 (r : Ref) (off : Nat) : fieldAddrEv Tryd.prog 69 (.ptr r off) 0 = some (.ptr r (off + 0)) := by kernel_rfl
section
variable {h : Heap} {b : Nat} {n n' : Int} {x : AV}
theorem store31 (hb : h.boxes[b]? = some [x]) : storeEv Tryd.prog h 31 (.ptr (.box b) 0) (.v (.int .i64 n')) = some (h.put b [.v (.int .i64 n')]) := store_box (off := 0) (cs := [x]) (xs := [.v (.int .i64 n')]) rfl sz31 hb rfl (Nat.le_refl 1)
theorem store4 {t : Bool} (hb : h.boxes[b]? = some [x]) : storeEv Tryd.prog h 4 (.ptr (.box b) 0) (.v (.bool t)) = some (h.put b [.v (.bool t)]) := store_box (off := 0) (cs := [x]) (xs := [.v (.bool t)]) rfl sz4 hb rfl (Nat.le_refl 1)
theorem store69 (hb : h.boxes[b]? = some [x]) : storeEv Tryd.prog h 69 (.ptr (.box b) 0) (.agg [.v (.int .i64 n')]) = some (h.put b [.v (.int .i64 n')]) := store_box (off := 0) (cs := [x]) (xs := [.v (.int .i64 n')]) rfl sz69 hb rfl (Nat.le_refl 1)
end
set_option maxHeartbeats 4000000 in
set_option maxRecDepth 100000 in
theorem caught_calm (b : Nat) (h : Heap) : W.dcall 52 [.ptr (.box b) 0] none h = some (.ret (.tuple []), none, h) := by
  have u20 := Tryd.underlying20
  refine dcall_of_run Tryd.func52 rfl ?_
  repeat' (first | simp (config := { maxSteps := 4000000 }) (disch := first | assumption | (exact Nat.le_refl _) | omega | (simp only [List.length_cons, List.length_nil, List.length_append, push_len, put_len, len_app] <;> omega) | (simp (disch := (first | assumption | omega | (exact (push_len _ _).symm) | (simp only [push_len, put_len, len_app]; omega) | (refine Nat.le_antisymm ?_ ?_ <;> simp only [push_len, put_len, len_app] <;> omega) | fail)) only [get_push_last, get_push_eq, get_push_ne, get_put_eq, get_put_ne, get_app] <;> first | assumption | rfl) | (simp only [canApp_push, canApp_put]; assumption) | (exact start_round _ _) | (simp only [st_round, dfr_round, pn_round]; first | assumption | exact start_round _ _) | fail) only [goS, plainEv, resultsEv, resultListEv, reduceIte, Nat.reduceEqDiff, Option.map_some, Option.map_none, Option.bind_some, List.map_cons, List.map_nil, List.getD_cons_zero, List.getD_cons_succ, List.getElem?_toArray, List.getElem?_cons_zero, List.getElem?_cons_succ, eq_self, beq_self_eq_true, goH, List.append_nil, List.nil_append, res52, bin_nil_neq, and_self, *] | (refine guard_dec (fun _ => ?_) (fun _ => ?_) <;> try (exfalso; omega)) | (refine guard_ndec (fun _ => ?_) (fun _ => ?_) <;> try (exfalso; omega)) | (refine branch_dec (fun _ => ?_) (fun _ => ?_) <;> try (exfalso; omega)) | (refine branch_ndec (fun _ => ?_) (fun _ => ?_) <;> try (exfalso; omega)) | refine guard_nbool (fun _ => ?_) (fun _ => ?_) | refine branch_nbool (fun _ => ?_) (fun _ => ?_) | refine guard_bool (fun _ => ?_) (fun _ => ?_) | refine branch_bool (fun _ => ?_) (fun _ => ?_))
set_option maxHeartbeats 4000000 in
set_option maxRecDepth 100000 in
theorem caught_saved (b : Nat) (h : Heap) (e : Int) {x : AV} (hb : h.boxes[b]? = some [x]) : W.dcall 52 [.ptr (.box b) 0] (some (stopV e, false)) h = some (.ret (.tuple []), some (stopV e, true), (h.push [.v (.int .i64 e)]).put b [.v (.int .i64 e)]) := by
  have u20 := Tryd.underlying20
  have i20 := ii20
  have a31 := ag31; have z69 := zc69
  have nb := (List.getElem?_eq_some_iff.1 hb).1
  unfold stopV
  refine dcall_of_run Tryd.func52 rfl ?_
  repeat' (first | simp (config := { maxSteps := 4000000 }) (disch := first | assumption | (exact Nat.le_refl _) | omega | (simp only [List.length_cons, List.length_nil, List.length_append, push_len, put_len, len_app] <;> omega) | (simp (disch := (first | assumption | omega | (exact (push_len _ _).symm) | (simp only [push_len, put_len, len_app]; omega) | (refine Nat.le_antisymm ?_ ?_ <;> simp only [push_len, put_len, len_app] <;> omega) | fail)) only [get_push_last, get_push_eq, get_push_ne, get_put_eq, get_put_ne, get_app] <;> first | assumption | rfl) | (simp only [canApp_push, canApp_put]; assumption) | (exact start_round _ _) | (simp only [st_round, dfr_round, pn_round]; first | assumption | exact start_round _ _) | fail) only [goS, plainEv, resultsEv, resultListEv, reduceIte, Nat.reduceEqDiff, Option.map_some, Option.map_none, Option.bind_some, List.map_cons, List.map_nil, List.getD_cons_zero, List.getD_cons_succ, List.getElem?_toArray, List.getElem?_cons_zero, List.getElem?_cons_succ, eq_self, beq_self_eq_true, goH, List.append_nil, List.nil_append, res52, bin_iface_neq, as69, store69, store31, fa69, cell_one, put_push_eq, and_self, *] | (refine guard_dec (fun _ => ?_) (fun _ => ?_) <;> try (exfalso; omega)) | (refine guard_ndec (fun _ => ?_) (fun _ => ?_) <;> try (exfalso; omega)) | (refine branch_dec (fun _ => ?_) (fun _ => ?_) <;> try (exfalso; omega)) | (refine branch_ndec (fun _ => ?_) (fun _ => ?_) <;> try (exfalso; omega)) | refine guard_nbool (fun _ => ?_) (fun _ => ?_) | refine branch_nbool (fun _ => ?_) (fun _ => ?_) | refine guard_bool (fun _ => ?_) (fun _ => ?_) | refine branch_bool (fun _ => ?_) (fun _ => ?_))
/-! ### resolved -/
def wantE (o : List (List UInt8)) (z : Ex) : Int := if z.kind = 1 ∨ z.kind = 2 then idx o z.name else 0
def nextR (o : List (List UInt8)) (_ : Unit) (z : Ex) (_ : Int) : Nx Unit := if z.no = wantE o z then .cont () else .stop ()
mutual
def isRes (o : List (List UInt8)) : Ex → Bool
  | .mk k n no s l => decide (no = wantE o (.mk k n no s l)) && isResL o l
def isResL (o : List (List UInt8)) : List Ex → Bool
  | [] => true
  | x :: r => isRes o x && isResL o r
end
theorem feedR (o : List (List UInt8)) : ∀ (x : Ex) (d : Int), feed (nextR o) x d () = if isRes o x = true then .cont () else .stop () := by
  intro x
  induction x using Ex.ind with
  | h k n no name l ih =>
    intro d
    have key : ∀ r : List Ex, (∀ y ∈ r, y ∈ l) → feedL (nextR o) r (d + 1) () = if isResL o r = true then .cont () else .stop () := by
      intro r
      induction r with
      | nil => intro _; rw [feedL, isResL]; rfl
      | cons y r ihr =>
        intro hin
        rw [feedL, ih y (hin y List.mem_cons_self), isResL]
        cases isRes o y with
        | true => simp only [if_true, Bool.true_and]; exact ihr fun z hz => hin z (List.mem_cons_of_mem _ hz)
        | false => simp
    have hn : nextR o () (.mk k n no name l) d = if no = wantE o (.mk k n no name l) then .cont () else .stop () := rfl
    rw [feed, hn, isRes]
    by_cases q : no = wantE o (.mk k n no name l)
    · rw [if_pos q, decide_eq_true q]; simp only [Bool.true_and]; exact key l fun _ h => h
    · rw [if_neg q, decide_eq_false q]; simp
theorem isRes_iff (o : List (List UInt8)) : ∀ x : Ex, isRes o x = true ↔ resE o x = x := by
  intro x
  induction x using Ex.ind with
  | h k n no name l ih =>
    rw [isRes, resE, Bool.and_eq_true, decide_eq_true_eq]
    have key : ∀ r : List Ex, (∀ y ∈ r, y ∈ l) → (isResL o r = true ↔ resL o r = r) := by
      intro r
      induction r with
      | nil => intro _; rw [isResL, resL]; simp
      | cons y r ihr =>
        intro hin
        rw [isResL, resL, Bool.and_eq_true, ih y (hin y List.mem_cons_self), ihr fun z hz => hin z (List.mem_cons_of_mem _ hz), List.cons.injEq]
    rw [key l fun _ h => h]
    simp only [wantE, Ex.kind, Ex.name, Ex.mk.injEq, true_and]
    exact ⟨fun q => ⟨q.1.symm, q.2⟩, fun q => ⟨q.1.symm, q.2⟩⟩
theorem list_cells {k : Tok} {sz : Nat} {es : List (List AV)} : (AV.list k sz es).cellsO = some [.list k sz es] := rfl
set_option maxHeartbeats 8000000 in
set_option maxRecDepth 100000 in
theorem resolved_ev (tk : Tok) (so : Nat) (o : List (List UInt8)) (hz : ∀ i : Nat, i < o.length → so = 1) (hl : o.length ≤ 9223372036854775807) (x : Ex) (row : List AV) (hrow : Row x row) (hcn : cnt x ≤ 1000) (h : Heap) : Says W 47 [.list tk so (strs o), .agg row] h (.ret (.v (.bool (isRes o x)))) := by
  obtain ⟨tok, sz, rows, rfl, -⟩ := Row.five hrow
  have a3 := ag3; have a9 := ag9; have a4 := ag4; have a22 := ag22; have a26 := ag26; have z4 := zc4
  have hpf := partsF_ev x _ hrow 1
  have kro := Keep.mk hrow
  have hix : ∀ s h, W.call 60 [.list tk so (strs o), .v (.string (bs s))] h = some (.ret (.v (.int .i64 (idx o s))), h) := fun s h => index_ev tk so o s hz hl h
  have hdy := depth_cnt x
  have khz := Keep.mk hz
  clear hrow hz
  refine call_ex rfl Tryd.func47 rfl ?_
  repeat' (first | simp (config := { maxSteps := 4000000 }) (disch := first | assumption | (exact Nat.le_refl _) | omega | (simp only [List.length_cons, List.length_nil, List.length_append, push_len, put_len, len_app] <;> omega) | (simp (disch := (first | assumption | omega | (exact (push_len _ _).symm) | (simp only [push_len, put_len, len_app]; omega) | (refine Nat.le_antisymm ?_ ?_ <;> simp only [push_len, put_len, len_app] <;> omega) | fail)) only [get_push_last, get_push_eq, get_push_ne, get_put_eq, get_put_ne, get_app] <;> first | assumption | rfl) | (simp only [canApp_push, canApp_put]; assumption) | (exact start_round _ _) | (simp only [st_round, dfr_round, pn_round]; first | assumption | exact start_round _ _) | fail) only [goS, plainEv, resultsEv, resultListEv, reduceIte, Nat.reduceEqDiff, Option.map_some, Option.map_none, Option.bind_some, List.map_cons, List.map_nil, List.getD_cons_zero, List.getD_cons_succ, List.getElem?_toArray, List.getElem?_cons_zero, List.getElem?_cons_succ, eq_self, beq_self_eq_true, goH, List.append_nil, List.nil_append, res47, row5_cells, list_cells, load26, push_len, row5_all, *] | (refine guard_dec (fun _ => ?_) (fun _ => ?_) <;> try (exfalso; omega)) | (refine guard_ndec (fun _ => ?_) (fun _ => ?_) <;> try (exfalso; omega)) | (refine branch_dec (fun _ => ?_) (fun _ => ?_) <;> try (exfalso; omega)) | (refine branch_ndec (fun _ => ?_) (fun _ => ?_) <;> try (exfalso; omega)) | refine guard_nbool (fun _ => ?_) (fun _ => ?_) | refine branch_nbool (fun _ => ?_) (fun _ => ?_) | refine guard_bool (fun _ => ?_) (fun _ => ?_) | refine branch_bool (fun _ => ?_) (fun _ => ?_))
  refine Run.gen fun e2 q2 qd2 _ _ => ?_
  have p2 : e2.get 2 = .ptr (.box h.boxes.length) 0 := by rw [q2]; simp only [goS, plainEv, resultsEv, resultListEv, reduceIte, Nat.reduceEqDiff, Option.map_some, Option.map_none, Option.bind_some, List.map_cons, List.map_nil, List.getD_cons_zero, List.getD_cons_succ, List.getElem?_toArray, List.getElem?_cons_zero, List.getElem?_cons_succ, eq_self, beq_self_eq_true, goH]
  have p4 : e2.get 4 = .ptr (.box (h.boxes.length + 1 + 1)) 0 := by rw [q2]; simp only [goS, plainEv, resultsEv, resultListEv, reduceIte, Nat.reduceEqDiff, Option.map_some, Option.map_none, Option.bind_some, List.map_cons, List.map_nil, List.getD_cons_zero, List.getD_cons_succ, List.getElem?_toArray, List.getElem?_cons_zero, List.getElem?_cons_succ, eq_self, beq_self_eq_true, goH]
  have p8 : e2.get 8 = .func (.func 67) [] [.ptr (.box (h.boxes.length + 1 + 1 + 1)) 0, .ptr (.box (h.boxes.length + 1 + 1 + 1 + 1)) 0] := by rw [q2]; simp only [goS, plainEv, resultsEv, resultListEv, reduceIte, Nat.reduceEqDiff, Option.map_some, Option.map_none, Option.bind_some, List.map_cons, List.map_nil, List.getD_cons_zero, List.getD_cons_succ, List.getElem?_toArray, List.getElem?_cons_zero, List.getElem?_cons_succ, eq_self, beq_self_eq_true, goH]
  have pd : e2.defers = [] := by rw [qd2]; simp only [goS, plainEv, resultsEv, resultListEv, reduceIte, Nat.reduceEqDiff, Option.map_some, Option.map_none, Option.bind_some, List.map_cons, List.map_nil, List.getD_cons_zero, List.getD_cons_succ, List.getElem?_toArray, List.getElem?_cons_zero, List.getElem?_cons_succ, eq_self, beq_self_eq_true, goH]
  clear q2 qd2 hpf
  generalize hS : ((((h.push [.list tk so (strs o)]).push (row5 x.kind x.n x.no x.name tok sz rows)).push [.v (.bool false)]).push (row5 x.kind x.n x.no x.name tok sz rows)).push [.v (.int .i64 1)] = hs
  have xs : Ext h hs := by rw [← hS]; exact ((((Ext.push _ _).trans (.push _ _)).trans (.push _ _)).trans (.push _ _)).trans (.push _ _)
  have f1 : hs.boxes[h.boxes.length]? = some [.list tk so (strs o)] := by rw [← hS]; simp (disch := (first | assumption | omega | (exact (push_len _ _).symm) | (simp only [push_len, put_len, len_app]; omega) | (refine Nat.le_antisymm ?_ ?_ <;> simp only [push_len, put_len, len_app] <;> omega) | fail)) only [get_push_last, get_push_eq, get_push_ne, get_put_eq, get_put_ne, get_app]
  have f2 : hs.boxes[h.boxes.length + 1 + 1]? = some [.v (.bool false)] := by rw [← hS]; simp (disch := (first | assumption | omega | (exact (push_len _ _).symm) | (simp only [push_len, put_len, len_app]; omega) | (refine Nat.le_antisymm ?_ ?_ <;> simp only [push_len, put_len, len_app] <;> omega) | fail)) only [get_push_last, get_push_eq, get_push_ne, get_put_eq, get_put_ne, get_app]
  have f3 : hs.boxes[h.boxes.length + 1 + 1 + 1]? = some (row5 x.kind x.n x.no x.name tok sz rows) := by rw [← hS]; simp (disch := (first | assumption | omega | (exact (push_len _ _).symm) | (simp only [push_len, put_len, len_app]; omega) | (refine Nat.le_antisymm ?_ ?_ <;> simp only [push_len, put_len, len_app] <;> omega) | fail)) only [get_push_last, get_push_eq, get_push_ne, get_put_eq, get_put_ne, get_app]
  have f4 : hs.boxes[h.boxes.length + 1 + 1 + 1 + 1]? = some [.v (.int .i64 1)] := by rw [← hS]; simp (disch := (first | assumption | omega | (exact (push_len _ _).symm) | (simp only [push_len, put_len, len_app]; omega) | (refine Nat.le_antisymm ?_ ?_ <;> simp only [push_len, put_len, len_app] <;> omega) | fail)) only [get_push_last, get_push_eq, get_push_ne, get_put_eq, get_put_ne, get_app]
  have kxs := Keep.mk xs
  clear hS xs
  refine range_feed (J := fun (_ : Unit) hh => hh.boxes[h.boxes.length]? = some [.list tk so (strs o)] ∧ hh.boxes[h.boxes.length + 1 + 1]? = some [.v (.bool false)]) (nextR o) kro.out (bn := h.boxes.length + 1 + 1) (n0 := h.tn) () p8 f3 f4 (by omega) (by omega) (by omega) (by omega) kxs.out.tn ⟨f1, f2⟩ (fun a h1 h2 ⟨j1, j2⟩ hb => ⟨hb _ _ j1, hb _ _ j2⟩) (fun a h1 ⟨j1, j2⟩ => (List.getElem?_eq_some_iff.1 j2).1) ?_ ?_
  · rintro c hh z tk3 sz3 rows3 dd rec w1 w2 ⟨j1, j2⟩ hz k0 k1 k2
    have t9 : (roundEnv hs.loops.length rec [.agg (row6 z.kind z.n z.no z.name tk3 sz3 rows3 dd)]).get 9 = .agg (row6 z.kind z.n z.no z.name tk3 sz3 rows3 dd) := by rw [roundEnv_get w2 w1]; rfl
    have t2 : (roundEnv hs.loops.length rec [.agg (row6 z.kind z.n z.no z.name tk3 sz3 rows3 dd)]).get 2 = .ptr (.box h.boxes.length) 0 := by rw [roundEnv_get w2 w1]; exact p2
    have t4 : (roundEnv hs.loops.length rec [.agg (row6 z.kind z.n z.no z.name tk3 sz3 rows3 dd)]).get 4 = .ptr (.box (h.boxes.length + 1 + 1)) 0 := by rw [roundEnv_get w2 w1]; exact p4
    have z77 := zc77
    clear w1 w2
    repeat' (first | simp (config := { maxSteps := 4000000 }) (disch := first | assumption | (exact Nat.le_refl _) | omega | (simp only [List.length_cons, List.length_nil, List.length_append, push_len, put_len, len_app] <;> omega) | (simp (disch := (first | assumption | omega | (exact (push_len _ _).symm) | (simp only [push_len, put_len, len_app]; omega) | (refine Nat.le_antisymm ?_ ?_ <;> simp only [push_len, put_len, len_app] <;> omega) | fail)) only [get_push_last, get_push_eq, get_push_ne, get_put_eq, get_put_ne, get_app] <;> first | assumption | rfl) | (simp only [canApp_push, canApp_put]; assumption) | (exact start_round _ _) | (simp only [st_round, dfr_round, pn_round]; first | assumption | exact start_round _ _) | fail) only [goS, plainEv, resultsEv, resultListEv, reduceIte, Nat.reduceEqDiff, Option.map_some, Option.map_none, Option.bind_some, List.map_cons, List.map_nil, List.getD_cons_zero, List.getD_cons_succ, List.getElem?_toArray, List.getElem?_cons_zero, List.getElem?_cons_succ, eq_self, beq_self_eq_true, goH, List.append_nil, List.nil_append, store77, put_push_eq, *] | (refine guard_dec (fun _ => ?_) (fun _ => ?_) <;> try (exfalso; omega)) | (refine guard_ndec (fun _ => ?_) (fun _ => ?_) <;> try (exfalso; omega)) | (refine branch_dec (fun _ => ?_) (fun _ => ?_) <;> try (exfalso; omega)) | (refine branch_ndec (fun _ => ?_) (fun _ => ?_) <;> try (exfalso; omega)) | refine guard_nbool (fun _ => ?_) (fun _ => ?_) | refine branch_nbool (fun _ => ?_) (fun _ => ?_) | refine guard_bool (fun _ => ?_) (fun _ => ?_) | refine branch_bool (fun _ => ?_) (fun _ => ?_))
    refine ⟨by first | trivial | rfl, rfl, Fr.push .., fun rb => ?_⟩
    generalize hB' : (hh.push (row6 z.kind z.n z.no z.name tk3 sz3 rows3 dd)).setLoop hs.loops.length rb = hB
    have g1 : hB.boxes[h.boxes.length]? = some [.list tk so (strs o)] := by rw [← hB']; exact push_old j1
    have g2 : hB.boxes[h.boxes.length + 1 + 1]? = some [.v (.bool false)] := by rw [← hB']; exact push_old j2
    have g3 : hB.boxes[hh.boxes.length]? = some (row6 z.kind z.n z.no z.name tk3 sz3 rows3 dd) := by rw [← hB']; exact push_last _ _
    have n1 := (List.getElem?_eq_some_iff.1 g1).1
    have n2 := (List.getElem?_eq_some_iff.1 g2).1
    have n3 := (List.getElem?_eq_some_iff.1 g3).1
    have hnm : ∀ h : Heap, W.call 58 [.agg (row5 z.kind z.n z.no z.name tk3 sz3 rows3)] h = some (.ret (.v (.bool (decide (z.kind = 1) || decide (z.kind = 2)))), h.push (row5 z.kind z.n z.no z.name tk3 sz3 rows3)) := isNamed_ev z _ hz
    clear hB'
    have fin : Fr (h.boxes.length + 1 + 1) hs.loops.length h.tn hB (hB.push (row5 z.kind z.n z.no z.name tk3 sz3 rows3)) := Fr.push ..
    have kfin := Keep.mk fin
    have kg1 := Keep.mk g1
    have kg2 := Keep.mk g2
    have kn2 := Keep.mk (show h.boxes.length + 1 + 1 < hB.boxes.length from n2)
    clear fin
    have done : ∀ (hq : Nx Unit), nextR o c z dd = hq → BodyEnd (h.boxes.length + 1 + 1) hs.loops.length h.tn (fun (_ : Unit) hh => hh.boxes[h.boxes.length]? = some [.list tk so (strs o)] ∧ hh.boxes[h.boxes.length + 1 + 1]? = some [.v (.bool false)]) hB .normal (hB.push (row5 z.kind z.n z.no z.name tk3 sz3 rows3)) (.cont ()) := fun _ _ => ⟨kfin.out, fun _ _ h => h, rfl, push_old kg1.out, push_old kg2.out⟩
    have fail : BodyEnd (h.boxes.length + 1 + 1) hs.loops.length h.tn (fun (_ : Unit) hh => hh.boxes[h.boxes.length]? = some [.list tk so (strs o)] ∧ hh.boxes[h.boxes.length + 1 + 1]? = some [.v (.bool false)]) hB .ret ((hB.put (h.boxes.length + 1 + 1) [.v (.bool false)]).push (row5 z.kind z.n z.no z.name tk3 sz3 rows3)) (.stop ()) :=
      ⟨(Fr.put ..).trans (Fr.push ..), fun _ _ h => h, rfl, push_old (by rw [put_other (by omega)]; exact kg1.out), push_old (put_this kn2.out)⟩
    have kdone := Keep.mk (done (nextR o c z dd) rfl)
    have kfail := Keep.mk fail
    clear done fail
    unfold nextR
    cases b1 : (decide (z.kind = 1) || decide (z.kind = 2)) with
    | false =>
      rw [b1] at hnm
      have hw : wantE o z = 0 := by
        unfold wantE
        rw [if_neg]
        simpa using b1
      rw [hw]
      cases b2 : decide (z.no = 0) with
      | true =>
        rw [if_pos (of_decide_eq_true b2)]
        repeat' (first | simp (config := { maxSteps := 4000000 }) (disch := first | assumption | (exact Nat.le_refl _) | omega | (simp only [List.length_cons, List.length_nil, List.length_append, push_len, put_len, len_app] <;> omega) | (simp (disch := (first | assumption | omega | (exact (push_len _ _).symm) | (simp only [push_len, put_len, len_app]; omega) | (refine Nat.le_antisymm ?_ ?_ <;> simp only [push_len, put_len, len_app] <;> omega) | fail)) only [get_push_last, get_push_eq, get_push_ne, get_put_eq, get_put_ne, get_app] <;> first | assumption | rfl) | (simp only [canApp_push, canApp_put]; assumption) | (exact start_round _ _) | (simp only [st_round, dfr_round, pn_round]; first | assumption | exact start_round _ _) | fail) only [goS, plainEv, resultsEv, resultListEv, reduceIte, Nat.reduceEqDiff, Option.map_some, Option.map_none, Option.bind_some, List.map_cons, List.map_nil, List.getD_cons_zero, List.getD_cons_succ, List.getElem?_toArray, List.getElem?_cons_zero, List.getElem?_cons_succ, eq_self, beq_self_eq_true, goH, List.append_nil, List.nil_append, load77_x, row6s, cell_one, fa26_2, fa26_3, push_len, store4, put_push_ne, *] | (refine guard_dec (fun _ => ?_) (fun _ => ?_) <;> try (exfalso; omega)) | (refine guard_ndec (fun _ => ?_) (fun _ => ?_) <;> try (exfalso; omega)) | (refine branch_dec (fun _ => ?_) (fun _ => ?_) <;> try (exfalso; omega)) | (refine branch_ndec (fun _ => ?_) (fun _ => ?_) <;> try (exfalso; omega)) | refine guard_nbool (fun _ => ?_) (fun _ => ?_) | refine branch_nbool (fun _ => ?_) (fun _ => ?_) | refine guard_bool (fun _ => ?_) (fun _ => ?_) | refine branch_bool (fun _ => ?_) (fun _ => ?_))
        exact kdone.out
      | false =>
        rw [if_neg (of_decide_eq_false b2)]
        repeat' (first | simp (config := { maxSteps := 4000000 }) (disch := first | assumption | (exact Nat.le_refl _) | omega | (simp only [List.length_cons, List.length_nil, List.length_append, push_len, put_len, len_app] <;> omega) | (simp (disch := (first | assumption | omega | (exact (push_len _ _).symm) | (simp only [push_len, put_len, len_app]; omega) | (refine Nat.le_antisymm ?_ ?_ <;> simp only [push_len, put_len, len_app] <;> omega) | fail)) only [get_push_last, get_push_eq, get_push_ne, get_put_eq, get_put_ne, get_app] <;> first | assumption | rfl) | (simp only [canApp_push, canApp_put]; assumption) | (exact start_round _ _) | (simp only [st_round, dfr_round, pn_round]; first | assumption | exact start_round _ _) | fail) only [goS, plainEv, resultsEv, resultListEv, reduceIte, Nat.reduceEqDiff, Option.map_some, Option.map_none, Option.bind_some, List.map_cons, List.map_nil, List.getD_cons_zero, List.getD_cons_succ, List.getElem?_toArray, List.getElem?_cons_zero, List.getElem?_cons_succ, eq_self, beq_self_eq_true, goH, List.append_nil, List.nil_append, load77_x, row6s, cell_one, fa26_2, fa26_3, push_len, store4, put_push_ne, *] | (refine guard_dec (fun _ => ?_) (fun _ => ?_) <;> try (exfalso; omega)) | (refine guard_ndec (fun _ => ?_) (fun _ => ?_) <;> try (exfalso; omega)) | (refine branch_dec (fun _ => ?_) (fun _ => ?_) <;> try (exfalso; omega)) | (refine branch_ndec (fun _ => ?_) (fun _ => ?_) <;> try (exfalso; omega)) | refine guard_nbool (fun _ => ?_) (fun _ => ?_) | refine branch_nbool (fun _ => ?_) (fun _ => ?_) | refine guard_bool (fun _ => ?_) (fun _ => ?_) | refine branch_bool (fun _ => ?_) (fun _ => ?_))
        exact kfail.out
    | true =>
      rw [b1] at hnm
      have hw : wantE o z = idx o z.name := by
        unfold wantE
        rw [if_pos]
        simpa using b1
      rw [hw]
      cases b2 : decide (z.no = idx o z.name) with
      | true =>
        rw [if_pos (of_decide_eq_true b2)]
        repeat' (first | simp (config := { maxSteps := 4000000 }) (disch := first | assumption | (exact Nat.le_refl _) | omega | (simp only [List.length_cons, List.length_nil, List.length_append, push_len, put_len, len_app] <;> omega) | (simp (disch := (first | assumption | omega | (exact (push_len _ _).symm) | (simp only [push_len, put_len, len_app]; omega) | (refine Nat.le_antisymm ?_ ?_ <;> simp only [push_len, put_len, len_app] <;> omega) | fail)) only [get_push_last, get_push_eq, get_push_ne, get_put_eq, get_put_ne, get_app] <;> first | assumption | rfl) | (simp only [canApp_push, canApp_put]; assumption) | (exact start_round _ _) | (simp only [st_round, dfr_round, pn_round]; first | assumption | exact start_round _ _) | fail) only [goS, plainEv, resultsEv, resultListEv, reduceIte, Nat.reduceEqDiff, Option.map_some, Option.map_none, Option.bind_some, List.map_cons, List.map_nil, List.getD_cons_zero, List.getD_cons_succ, List.getElem?_toArray, List.getElem?_cons_zero, List.getElem?_cons_succ, eq_self, beq_self_eq_true, goH, List.append_nil, List.nil_append, load77_x, row6s, cell_one, fa26_2, fa26_3, push_len, store4, put_push_ne, *] | (refine guard_dec (fun _ => ?_) (fun _ => ?_) <;> try (exfalso; omega)) | (refine guard_ndec (fun _ => ?_) (fun _ => ?_) <;> try (exfalso; omega)) | (refine branch_dec (fun _ => ?_) (fun _ => ?_) <;> try (exfalso; omega)) | (refine branch_ndec (fun _ => ?_) (fun _ => ?_) <;> try (exfalso; omega)) | refine guard_nbool (fun _ => ?_) (fun _ => ?_) | refine branch_nbool (fun _ => ?_) (fun _ => ?_) | refine guard_bool (fun _ => ?_) (fun _ => ?_) | refine branch_bool (fun _ => ?_) (fun _ => ?_))
        exact kdone.out
      | false =>
        rw [if_neg (of_decide_eq_false b2)]
        repeat' (first | simp (config := { maxSteps := 4000000 }) (disch := first | assumption | (exact Nat.le_refl _) | omega | (simp only [List.length_cons, List.length_nil, List.length_append, push_len, put_len, len_app] <;> omega) | (simp (disch := (first | assumption | omega | (exact (push_len _ _).symm) | (simp only [push_len, put_len, len_app]; omega) | (refine Nat.le_antisymm ?_ ?_ <;> simp only [push_len, put_len, len_app] <;> omega) | fail)) only [get_push_last, get_push_eq, get_push_ne, get_put_eq, get_put_ne, get_app] <;> first | assumption | rfl) | (simp only [canApp_push, canApp_put]; assumption) | (exact start_round _ _) | (simp only [st_round, dfr_round, pn_round]; first | assumption | exact start_round _ _) | fail) only [goS, plainEv, resultsEv, resultListEv, reduceIte, Nat.reduceEqDiff, Option.map_some, Option.map_none, Option.bind_some, List.map_cons, List.map_nil, List.getD_cons_zero, List.getD_cons_succ, List.getElem?_toArray, List.getElem?_cons_zero, List.getElem?_cons_succ, eq_self, beq_self_eq_true, goH, List.append_nil, List.nil_append, load77_x, row6s, cell_one, fa26_2, fa26_3, push_len, store4, put_push_ne, *] | (refine guard_dec (fun _ => ?_) (fun _ => ?_) <;> try (exfalso; omega)) | (refine guard_ndec (fun _ => ?_) (fun _ => ?_) <;> try (exfalso; omega)) | (refine branch_dec (fun _ => ?_) (fun _ => ?_) <;> try (exfalso; omega)) | (refine branch_ndec (fun _ => ?_) (fun _ => ?_) <;> try (exfalso; omega)) | refine guard_nbool (fun _ => ?_) (fun _ => ?_) | refine branch_nbool (fun _ => ?_) (fun _ => ?_) | refine guard_bool (fun _ => ?_) (fun _ => ?_) | refine branch_bool (fun _ => ?_) (fun _ => ?_))
        exact kfail.out
  · rw [feedR]
    cases hlg : isRes o x with
    | false =>
      simp only [Bool.false_eq_true, if_false]
      intro h3 hf3 ⟨_, hj⟩
      have x3 := Keep.mk (Ext.fr kxs.out hf3 (by omega) kxs.out.llen (Nat.le_refl _))
      clear hf3
      repeat' (first | simp (config := { maxSteps := 4000000 }) (disch := first | assumption | (exact Nat.le_refl _) | omega | (simp only [List.length_cons, List.length_nil, List.length_append, push_len, put_len, len_app] <;> omega) | (simp (disch := (first | assumption | omega | (exact (push_len _ _).symm) | (simp only [push_len, put_len, len_app]; omega) | (refine Nat.le_antisymm ?_ ?_ <;> simp only [push_len, put_len, len_app] <;> omega) | fail)) only [get_push_last, get_push_eq, get_push_ne, get_put_eq, get_put_ne, get_app] <;> first | assumption | rfl) | (simp only [canApp_push, canApp_put]; assumption) | (exact start_round _ _) | (simp only [st_round, dfr_round, pn_round]; first | assumption | exact start_round _ _) | fail) only [goS, plainEv, resultsEv, resultListEv, reduceIte, Nat.reduceEqDiff, Option.map_some, Option.map_none, Option.bind_some, List.map_cons, List.map_nil, List.getD_cons_zero, List.getD_cons_succ, List.getElem?_toArray, List.getElem?_cons_zero, List.getElem?_cons_succ, eq_self, beq_self_eq_true, goH, List.append_nil, List.nil_append, res47, cell_one, *] | (refine guard_dec (fun _ => ?_) (fun _ => ?_) <;> try (exfalso; omega)) | (refine guard_ndec (fun _ => ?_) (fun _ => ?_) <;> try (exfalso; omega)) | (refine branch_dec (fun _ => ?_) (fun _ => ?_) <;> try (exfalso; omega)) | (refine branch_ndec (fun _ => ?_) (fun _ => ?_) <;> try (exfalso; omega)) | refine guard_nbool (fun _ => ?_) (fun _ => ?_) | refine branch_nbool (fun _ => ?_) (fun _ => ?_) | refine guard_bool (fun _ => ?_) (fun _ => ?_) | refine branch_bool (fun _ => ?_) (fun _ => ?_))
      exact ⟨_, rfl, x3.out⟩
    | true =>
      simp only [if_true]
      intro h3 hf3 ⟨_, hj⟩
      have x3 := Keep.mk (Ext.fr kxs.out hf3 (by omega) kxs.out.llen (Nat.le_refl _))
      have n3 := (List.getElem?_eq_some_iff.1 hj).1
      clear hf3
      repeat' (first | simp (config := { maxSteps := 4000000 }) (disch := first | assumption | (exact Nat.le_refl _) | omega | (simp only [List.length_cons, List.length_nil, List.length_append, push_len, put_len, len_app] <;> omega) | (simp (disch := (first | assumption | omega | (exact (push_len _ _).symm) | (simp only [push_len, put_len, len_app]; omega) | (refine Nat.le_antisymm ?_ ?_ <;> simp only [push_len, put_len, len_app] <;> omega) | fail)) only [get_push_last, get_push_eq, get_push_ne, get_put_eq, get_put_ne, get_app] <;> first | assumption | rfl) | (simp only [canApp_push, canApp_put]; assumption) | (exact start_round _ _) | (simp only [st_round, dfr_round, pn_round]; first | assumption | exact start_round _ _) | fail) only [goS, plainEv, resultsEv, resultListEv, reduceIte, Nat.reduceEqDiff, Option.map_some, Option.map_none, Option.bind_some, List.map_cons, List.map_nil, List.getD_cons_zero, List.getD_cons_succ, List.getElem?_toArray, List.getElem?_cons_zero, List.getElem?_cons_succ, eq_self, beq_self_eq_true, goH, List.append_nil, List.nil_append, res47, cell_one, store4, *] | (refine guard_dec (fun _ => ?_) (fun _ => ?_) <;> try (exfalso; omega)) | (refine guard_ndec (fun _ => ?_) (fun _ => ?_) <;> try (exfalso; omega)) | (refine branch_dec (fun _ => ?_) (fun _ => ?_) <;> try (exfalso; omega)) | (refine branch_ndec (fun _ => ?_) (fun _ => ?_) <;> try (exfalso; omega)) | refine guard_nbool (fun _ => ?_) (fun _ => ?_) | refine branch_nbool (fun _ => ?_) (fun _ => ?_) | refine guard_bool (fun _ => ?_) (fun _ => ?_) | refine branch_bool (fun _ => ?_) (fun _ => ?_))
      exact ⟨_, rfl, x3.out.put_new (b := h.boxes.length + 1 + 1) (by omega) _⟩
end Go.Proofs.YtilmhlbjjfgeoaaDoor
end

section
namespace Go.Proofs.YtilmhlbjjfgeoaaDoor
open Go.AE Go.Lex Go.Pol
/-! ### attempt, Resolve -/
theorem res36 : Tryd.f36.results.toList = [] := by kernel_rfl
theorem res35 : Tryd.f35.results.toList = [.cell 2 31] := by kernel_rfl
theorem res11 : Tryd.f11.results.toList = [.cell 2 28, .tmp 3] := by kernel_rfl
noncomputable def codeP (p : Po) : Int := (resolveF p).2
theorem codeP_eq (p : Po) : codeP p = if smallP p = false then 2 else if namesP p = false then 201 else if formedP p = false then 200 else 0 := by
  unfold codeP resolveF
  cases smallP p <;> cases namesP p <;> cases formedP p <;> rfl
def endR (e : Int) : Res := if e = 0 then .ret (.tuple []) else .panic (stopV e)
set_option maxHeartbeats 8000000 in
set_option maxRecDepth 100000 in
theorem resolve1_ev (p : Po) (t : PT) (ok : POk p t) (few : PFew p) (h : Heap) (hok : okHeap h = true) (b : Nat) (hb : h.boxes[b]? = some (prow p t)) : ∃ h', W.call 36 [.ptr (.box b) 0] h = some (endR (codeP p), h') ∧ Ext h h' := by
  obtain ⟨h2, c2, x2⟩ := sizes_ev p t ok few h hok
  obtain ⟨h3, c3, x3⟩ := names_ev p t ok few h2 (x2.ok hok)
  obtain ⟨h4, c4, x4⟩ := form_ev p t ok few h3 (x3.ok (x2.ok hok))
  have b2 := x2.box _ _ hb
  have b3 := x3.box _ _ b2
  have k2 := Keep.mk x2
  have k3 := Keep.mk (x2.trans x3)
  have k4 := Keep.mk ((x2.trans x3).trans x4)
  have hc := codeP_eq p
  suffices hs : ∃ r h', W.call 36 [.ptr (.box b) 0] h = some (r, h') ∧ (r = endR (codeP p) ∧ Ext h h') by
    obtain ⟨r, h', q1, rfl, q3⟩ := hs
    exact ⟨h', q1, q3⟩
  clear x2 x3 x4 few hok ok
  refine call_post rfl Tryd.func36 rfl ?_
  rw [hc]
  clear hc
  cases e1 : smallP p with
  | false =>
    rw [e1] at c2
    simp only [Bool.false_eq_true, if_false] at c2
    repeat' (first | simp (config := { maxSteps := 4000000 }) (disch := first | assumption | (exact Nat.le_refl _) | omega | (simp only [List.length_cons, List.length_nil, List.length_append, push_len, put_len, len_app] <;> omega) | (simp (disch := (first | assumption | omega | (exact (push_len _ _).symm) | (simp only [push_len, put_len, len_app]; omega) | (refine Nat.le_antisymm ?_ ?_ <;> simp only [push_len, put_len, len_app] <;> omega) | fail)) only [get_push_last, get_push_eq, get_push_ne, get_put_eq, get_put_ne, get_app] <;> first | assumption | rfl) | (simp only [canApp_push, canApp_put]; assumption) | (exact start_round _ _) | (simp only [st_round, dfr_round, pn_round]; first | assumption | exact start_round _ _) | fail) only [goS, plainEv, resultsEv, resultListEv, reduceIte, Nat.reduceEqDiff, Option.map_some, Option.map_none, Option.bind_some, List.map_cons, List.map_nil, List.getD_cons_zero, List.getD_cons_succ, List.getElem?_toArray, List.getElem?_cons_zero, List.getElem?_cons_succ, eq_self, beq_self_eq_true, goH, List.append_nil, List.nil_append, res36, load28, *] | (refine guard_dec (fun _ => ?_) (fun _ => ?_) <;> try (exfalso; omega)) | (refine guard_ndec (fun _ => ?_) (fun _ => ?_) <;> try (exfalso; omega)) | (refine branch_dec (fun _ => ?_) (fun _ => ?_) <;> try (exfalso; omega)) | (refine branch_ndec (fun _ => ?_) (fun _ => ?_) <;> try (exfalso; omega)) | refine guard_nbool (fun _ => ?_) (fun _ => ?_) | refine branch_nbool (fun _ => ?_) (fun _ => ?_) | refine guard_bool (fun _ => ?_) (fun _ => ?_) | refine branch_bool (fun _ => ?_) (fun _ => ?_))
    exact ⟨_, _, rfl, rfl, k2.out⟩
  | true =>
    rw [e1] at c2
    cases e2 : namesP p with
    | false =>
      rw [e2] at c3
      simp only [Bool.false_eq_true, if_false, if_true] at c2 c3
      repeat' (first | simp (config := { maxSteps := 4000000 }) (disch := first | assumption | (exact Nat.le_refl _) | omega | (simp only [List.length_cons, List.length_nil, List.length_append, push_len, put_len, len_app] <;> omega) | (simp (disch := (first | assumption | omega | (exact (push_len _ _).symm) | (simp only [push_len, put_len, len_app]; omega) | (refine Nat.le_antisymm ?_ ?_ <;> simp only [push_len, put_len, len_app] <;> omega) | fail)) only [get_push_last, get_push_eq, get_push_ne, get_put_eq, get_put_ne, get_app] <;> first | assumption | rfl) | (simp only [canApp_push, canApp_put]; assumption) | (exact start_round _ _) | (simp only [st_round, dfr_round, pn_round]; first | assumption | exact start_round _ _) | fail) only [goS, plainEv, resultsEv, resultListEv, reduceIte, Nat.reduceEqDiff, Option.map_some, Option.map_none, Option.bind_some, List.map_cons, List.map_nil, List.getD_cons_zero, List.getD_cons_succ, List.getElem?_toArray, List.getElem?_cons_zero, List.getElem?_cons_succ, eq_self, beq_self_eq_true, goH, List.append_nil, List.nil_append, res36, load28, *] | (refine guard_dec (fun _ => ?_) (fun _ => ?_) <;> try (exfalso; omega)) | (refine guard_ndec (fun _ => ?_) (fun _ => ?_) <;> try (exfalso; omega)) | (refine branch_dec (fun _ => ?_) (fun _ => ?_) <;> try (exfalso; omega)) | (refine branch_ndec (fun _ => ?_) (fun _ => ?_) <;> try (exfalso; omega)) | refine guard_nbool (fun _ => ?_) (fun _ => ?_) | refine branch_nbool (fun _ => ?_) (fun _ => ?_) | refine guard_bool (fun _ => ?_) (fun _ => ?_) | refine branch_bool (fun _ => ?_) (fun _ => ?_))
      exact ⟨_, _, rfl, rfl, k3.out⟩
    | true =>
      rw [e2] at c3
      cases e3 : formedP p with
      | false =>
        rw [e3] at c4
        simp only [Bool.false_eq_true, if_false, if_true] at c2 c3 c4
        repeat' (first | simp (config := { maxSteps := 4000000 }) (disch := first | assumption | (exact Nat.le_refl _) | omega | (simp only [List.length_cons, List.length_nil, List.length_append, push_len, put_len, len_app] <;> omega) | (simp (disch := (first | assumption | omega | (exact (push_len _ _).symm) | (simp only [push_len, put_len, len_app]; omega) | (refine Nat.le_antisymm ?_ ?_ <;> simp only [push_len, put_len, len_app] <;> omega) | fail)) only [get_push_last, get_push_eq, get_push_ne, get_put_eq, get_put_ne, get_app] <;> first | assumption | rfl) | (simp only [canApp_push, canApp_put]; assumption) | (exact start_round _ _) | (simp only [st_round, dfr_round, pn_round]; first | assumption | exact start_round _ _) | fail) only [goS, plainEv, resultsEv, resultListEv, reduceIte, Nat.reduceEqDiff, Option.map_some, Option.map_none, Option.bind_some, List.map_cons, List.map_nil, List.getD_cons_zero, List.getD_cons_succ, List.getElem?_toArray, List.getElem?_cons_zero, List.getElem?_cons_succ, eq_self, beq_self_eq_true, goH, List.append_nil, List.nil_append, res36, load28, *] | (refine guard_dec (fun _ => ?_) (fun _ => ?_) <;> try (exfalso; omega)) | (refine guard_ndec (fun _ => ?_) (fun _ => ?_) <;> try (exfalso; omega)) | (refine branch_dec (fun _ => ?_) (fun _ => ?_) <;> try (exfalso; omega)) | (refine branch_ndec (fun _ => ?_) (fun _ => ?_) <;> try (exfalso; omega)) | refine guard_nbool (fun _ => ?_) (fun _ => ?_) | refine branch_nbool (fun _ => ?_) (fun _ => ?_) | refine guard_bool (fun _ => ?_) (fun _ => ?_) | refine branch_bool (fun _ => ?_) (fun _ => ?_))
        exact ⟨_, _, rfl, rfl, k4.out⟩
      | true =>
        rw [e3] at c4
        simp only [if_true] at c2 c3 c4
        repeat' (first | simp (config := { maxSteps := 4000000 }) (disch := first | assumption | (exact Nat.le_refl _) | omega | (simp only [List.length_cons, List.length_nil, List.length_append, push_len, put_len, len_app] <;> omega) | (simp (disch := (first | assumption | omega | (exact (push_len _ _).symm) | (simp only [push_len, put_len, len_app]; omega) | (refine Nat.le_antisymm ?_ ?_ <;> simp only [push_len, put_len, len_app] <;> omega) | fail)) only [get_push_last, get_push_eq, get_push_ne, get_put_eq, get_put_ne, get_app] <;> first | assumption | rfl) | (simp only [canApp_push, canApp_put]; assumption) | (exact start_round _ _) | (simp only [st_round, dfr_round, pn_round]; first | assumption | exact start_round _ _) | fail) only [goS, plainEv, resultsEv, resultListEv, reduceIte, Nat.reduceEqDiff, Option.map_some, Option.map_none, Option.bind_some, List.map_cons, List.map_nil, List.getD_cons_zero, List.getD_cons_succ, List.getElem?_toArray, List.getElem?_cons_zero, List.getElem?_cons_succ, eq_self, beq_self_eq_true, goH, List.append_nil, List.nil_append, res36, load28, *] | (refine guard_dec (fun _ => ?_) (fun _ => ?_) <;> try (exfalso; omega)) | (refine guard_ndec (fun _ => ?_) (fun _ => ?_) <;> try (exfalso; omega)) | (refine branch_dec (fun _ => ?_) (fun _ => ?_) <;> try (exfalso; omega)) | (refine branch_ndec (fun _ => ?_) (fun _ => ?_) <;> try (exfalso; omega)) | refine guard_nbool (fun _ => ?_) (fun _ => ?_) | refine branch_nbool (fun _ => ?_) (fun _ => ?_) | refine guard_bool (fun _ => ?_) (fun _ => ?_) | refine branch_bool (fun _ => ?_) (fun _ => ?_))
        exact ⟨_, _, rfl, rfl, k4.out⟩
set_option maxHeartbeats 8000000 in
set_option maxRecDepth 100000 in
theorem attempt_ev (p : Po) (t : PT) (ok : POk p t) (few : PFew p) (h : Heap) (hok : okHeap h = true) (b : Nat) (hb : h.boxes[b]? = some (prow p t)) : Says W 35 [.func (.func 36) [] [.ptr (.box b) 0]] h (.ret (.v (.int .i64 (codeP p)))) := by
  obtain ⟨h2, c2, x2⟩ := resolve1_ev p t ok few (h.push [.v (.int .i64 0)]) hok b (push_old hb)
  have f1 := x2.box _ _ (push_last h [.v (.int .i64 0)])
  have a31 := ag31; have z31 := zc31
  have n1 := (List.getElem?_eq_some_iff.1 f1).1
  have k2 := Keep.mk ((Ext.push h _).trans x2)
  have hc1 := caught_calm h.boxes.length (h2.put h.boxes.length [.v (.int .i64 0)])
  have hc2 := caught_saved h.boxes.length h2 (codeP p) f1
  clear x2 few hok ok
  refine call_ex rfl Tryd.func35 rfl ?_
  unfold endR at c2
  by_cases h0 : codeP p = 0
  · rw [if_pos h0] at c2
    rw [h0]
    clear hc2 h0
    repeat' (first | simp (config := { maxSteps := 4000000 }) (disch := first | assumption | (exact Nat.le_refl _) | omega | (simp only [List.length_cons, List.length_nil, List.length_append, push_len, put_len, len_app] <;> omega) | (simp (disch := (first | assumption | omega | (exact (push_len _ _).symm) | (simp only [push_len, put_len, len_app]; omega) | (refine Nat.le_antisymm ?_ ?_ <;> simp only [push_len, put_len, len_app] <;> omega) | fail)) only [get_push_last, get_push_eq, get_push_ne, get_put_eq, get_put_ne, get_app] <;> first | assumption | rfl) | (simp only [canApp_push, canApp_put]; assumption) | (exact start_round _ _) | (simp only [st_round, dfr_round, pn_round]; first | assumption | exact start_round _ _) | fail) only [goS, plainEv, resultsEv, resultListEv, reduceIte, Nat.reduceEqDiff, Option.map_some, Option.map_none, Option.bind_some, List.map_cons, List.map_nil, List.getD_cons_zero, List.getD_cons_succ, List.getElem?_toArray, List.getElem?_cons_zero, List.getElem?_cons_succ, eq_self, beq_self_eq_true, goH, List.append_nil, List.nil_append, res35, store31, cell_one, *] | (refine guard_dec (fun _ => ?_) (fun _ => ?_) <;> try (exfalso; omega)) | (refine guard_ndec (fun _ => ?_) (fun _ => ?_) <;> try (exfalso; omega)) | (refine branch_dec (fun _ => ?_) (fun _ => ?_) <;> try (exfalso; omega)) | (refine branch_ndec (fun _ => ?_) (fun _ => ?_) <;> try (exfalso; omega)) | refine guard_nbool (fun _ => ?_) (fun _ => ?_) | refine branch_nbool (fun _ => ?_) (fun _ => ?_) | refine guard_bool (fun _ => ?_) (fun _ => ?_) | refine branch_bool (fun _ => ?_) (fun _ => ?_))
    exact ⟨_, rfl, k2.out.put_new (Nat.le_refl _) _⟩
  · rw [if_neg h0] at c2
    clear hc1
    repeat' (first | simp (config := { maxSteps := 4000000 }) (disch := first | assumption | (exact Nat.le_refl _) | omega | (simp only [List.length_cons, List.length_nil, List.length_append, push_len, put_len, len_app] <;> omega) | (simp (disch := (first | assumption | omega | (exact (push_len _ _).symm) | (simp only [push_len, put_len, len_app]; omega) | (refine Nat.le_antisymm ?_ ?_ <;> simp only [push_len, put_len, len_app] <;> omega) | fail)) only [get_push_last, get_push_eq, get_push_ne, get_put_eq, get_put_ne, get_app] <;> first | assumption | rfl) | (simp only [canApp_push, canApp_put]; assumption) | (exact start_round _ _) | (simp only [st_round, dfr_round, pn_round]; first | assumption | exact start_round _ _) | fail) only [goS, plainEv, resultsEv, resultListEv, reduceIte, Nat.reduceEqDiff, Option.map_some, Option.map_none, Option.bind_some, List.map_cons, List.map_nil, List.getD_cons_zero, List.getD_cons_succ, List.getElem?_toArray, List.getElem?_cons_zero, List.getElem?_cons_succ, eq_self, beq_self_eq_true, goH, List.append_nil, List.nil_append, res35, store31, cell_one, *] | (refine guard_dec (fun _ => ?_) (fun _ => ?_) <;> try (exfalso; omega)) | (refine guard_ndec (fun _ => ?_) (fun _ => ?_) <;> try (exfalso; omega)) | (refine branch_dec (fun _ => ?_) (fun _ => ?_) <;> try (exfalso; omega)) | (refine branch_ndec (fun _ => ?_) (fun _ => ?_) <;> try (exfalso; omega)) | refine guard_nbool (fun _ => ?_) (fun _ => ?_) | refine branch_nbool (fun _ => ?_) (fun _ => ?_) | refine guard_bool (fun _ => ?_) (fun _ => ?_) | refine branch_bool (fun _ => ?_) (fun _ => ?_))
    exact ⟨_, rfl, (k2.out.trans (.push _ _)).put_new (Nat.le_refl _) _⟩
end Go.Proofs.YtilmhlbjjfgeoaaDoor
end
