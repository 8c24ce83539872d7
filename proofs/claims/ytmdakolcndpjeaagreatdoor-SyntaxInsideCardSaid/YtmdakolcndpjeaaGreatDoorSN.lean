/-
 Part of the proof: SN.
-/
import Derived.Test.YtmdakolcndpjeaaGreatDoorSL
import Derived.Test.YtmdakolcndpjeaaGreatDoorSM
set_option maxHeartbeats 64000000
set_option maxRecDepth 100000
set_option linter.unusedSimpArgs false
set_option linter.unusedVariables false
set_option linter.constructorNameAsVariable false
section
namespace Go.Proofs.YtmdakolcndpjeaaGreatDoor
open Go.AE Go.Lex Go.Pol Go.Syn
theorem rs8 : Tryz.f8.results.toList = [.tmp 4] := by kernel_rfl
theorem evSuffix (l p : List UInt8) (hl : l.length ≤ 9223372036854775807) (h : Heap) : W.call 21 [.v (.string (bs l)), .v (.string (bs p))] h = some (.ret (.v (.bool (Lib.hasSuffix l p))), h) := by
 rw [whole_call]
 show (pHasSuffix [.v (.string (bs l)), .v (.string (bs p))] h).map _ = _
 unfold pHasSuffix
 simp only []
 rw [if_pos (by rw [bs_size]; exact hl)]
 rfl
theorem suffix_of (a b : List UInt8) : Lib.hasSuffix (a ++ b) b = true := by
 unfold Lib.hasSuffix
 exact List.isSuffixOf_iff_suffix.2 ⟨a, rfl⟩
theorem prefix_of (a b : List UInt8) : Lib.hasPrefix (a ++ b) a = true := by
 unfold Lib.hasPrefix
 exact List.isPrefixOf_iff_prefix.2 ⟨b, rfl⟩
section
variable {h : Heap} {c : Nat} {p : Po} {t : PT} {x : Ex} {tok : Tok} {sz : Nat} {rows : List (List AV)}
theorem st28_4 (hb : h.boxes[c]? = some (prow p t)) : storeEv Tryz.prog h 26 (.ptr (.box c) 4) (.agg (row5 x.kind x.n x.no x.name tok sz rows)) = some (h.put c (prow (withC p x) { t with tok := tok, sz := sz, rows := rows })) :=
 store_box (off := 4) (cs := prow p t) (xs := row5 x.kind x.n x.no x.name tok sz rows) rfl sz26 hb rfl (show 4 + 5 ≤ 10 by omega)
theorem withC_ok (ok : POk p t) (hx : Row x (row5 x.kind x.n x.no x.name tok sz rows)) : POk (withC p x) { t with tok := tok, sz := sz, rows := rows } := ⟨ok.rules, hx, ok.zk, ok.zo, ok.zr, ok.bk, ok.bo, ok.br⟩
end
theorem bOne (n : Int) (p : Po) (t : PT) : buildEv Tryz.prog 26 [(0, .v (.int .i64 3)), (1, .v (.int .i64 n)), (4, .list .tight 5 [p5 p t])] = some (.agg (row5 3 n 0 [] .tight 5 [p5 p t])) := by kernel_rfl
theorem bBoth (n : Int) (p : Po) (t : PT) : buildEv Tryz.prog 26 [(0, .v (.int .i64 4)), (1, .v (.int .i64 n)), (4, .list .tight 5 [p5 p t, p5 p t])] = some (.agg (row5 4 n 0 [] .tight 5 [p5 p t, p5 p t])) := by kernel_rfl
theorem bsl1 (p : Po) (t : PT) : buildSliceEv Tryz.prog 24 1 [(0, .agg (p5 p t))] = some (.list .tight 5 [p5 p t]) := by kernel_rfl
theorem bsl2 (p : Po) (t : PT) : buildSliceEv Tryz.prog 24 2 [(0, .agg (p5 p t)), (1, .agg (p5 p t))] = some (.list .tight 5 [p5 p t, p5 p t]) := by kernel_rfl
def tOne (p : Po) (t : PT) : PT := { t with tok := .tight, sz := 5, rows := [p5 p t] }
def tBoth (p : Po) (t : PT) : PT := { t with tok := .tight, sz := 5, rows := [p5 p t, p5 p t] }
def tName (t : PT) : PT := { t with tok := .nil, sz := 0, rows := [] }
section
variable {h : Heap} {c : Nat} {p : Po} {t : PT} {n : Int}
theorem stOne (hb : h.boxes[c]? = some (prow p t)) : storeEv Tryz.prog h 26 (.ptr (.box c) 4) (.agg (row5 3 n 0 [] .tight 5 [p5 p t])) = some (h.put c (prow (withC p (xOne n p.change)) (tOne p t))) := st28_4 (x := xOne n p.change) hb
theorem stBoth (hb : h.boxes[c]? = some (prow p t)) : storeEv Tryz.prog h 26 (.ptr (.box c) 4) (.agg (row5 4 n 0 [] .tight 5 [p5 p t, p5 p t])) = some (h.put c (prow (withC p (xBoth n p.change)) (tBoth p t))) := st28_4 (x := xBoth n p.change) hb
theorem stName {s : List UInt8} (hb : h.boxes[c]? = some (prow p t)) : storeEv Tryz.prog h 26 (.ptr (.box c) 4) (.agg (rSome s)) = some (h.put c (prow (withC p (xName s)) (tName t))) := st28_4 (x := xName s) hb
end
theorem okOne {p : Po} {t : PT} (ok : POk p t) (n : Int) : POk (withC p (xOne n p.change)) (tOne p t) :=
 withC_ok (x := xOne n p.change) ok (.mk _ _ _ _ _ _ _ _ rfl (fun _ _ => rfl) (by simp) (Pol.Rows.snoc Pol.Rows.nil ok.expr).2)
theorem okBoth {p : Po} {t : PT} (ok : POk p t) (n : Int) : POk (withC p (xBoth n p.change)) (tBoth p t) :=
 withC_ok (x := xBoth n p.change) ok (.mk _ _ _ _ _ _ _ _ rfl (fun _ _ => rfl) (by simp) (Pol.Rows.snoc (Pol.Rows.snoc Pol.Rows.nil ok.expr) ok.expr).2)
theorem okName {p : Po} {t : PT} (ok : POk p t) (s : List UInt8) : POk (withC p (xName s)) (tName t) := withC_ok (x := xName s) ok (row_rSome s)
theorem few_with {p : Po} (f : FewQ p) {x : Ex} (hx : cnt x ≤ 200) : (tokP (withC p x)).length ≤ 30000 := by
 have e : ∀ q : Po, (tokP q).length = (tokH q).length + ((tokE q.change).length + 1) := fun q => by rw [tokP_split, List.length_append, List.length_append]; rfl
 have h1 := few_tok f
 have h2 := tokE_cnt x
 rw [e] at h1 ⊢
 have h3 : (tokH (withC p x)).length = (tokH p).length := by rw [tokH_with]
 show (tokH (withC p x)).length + ((tokE x).length + 1) ≤ 30000
 omega
theorem few_three {p : Po} (f : FewQ p) (n : Int) : (tokP (withC p (xOne n p.change))).length ≤ 30000 ∧ (tokP (withC p (xBoth n p.change))).length ≤ 30000 ∧ (tokP (withC p (xName [120]))).length ≤ 30000 := by
 have h1 := f.change
 refine ⟨few_with f ?_, few_with f ?_, few_with f ?_⟩
 ·unfold xOne; rw [cnt, cntL, cntL]; omega
 ·unfold xBoth; rw [cnt, cntL, cntL, cntL]; omega
 ·unfold xName; rw [cnt, cntL]; omega
def nTk (n : Int) : Tk := ⟨2, [], n, 0⟩
theorem valid_nTk {n : Int} (h : numW n = true) : Valid [nTk n] := fun t ht => by
 simp at ht
 subst ht
 exact valid_dT h
theorem inside_text {p : Po} {n : Int} (hw : wrP p = true) (hn : numW n = true) : ∃ B E N : List UInt8,
 printF p = (B ++ (E ++ [32, 59]), 0) ∧ printF (withC p (xOne n p.change)) = ((((B ++ N) ++ [32, 111, 102, 32, 40, 32]) ++ E) ++ [32, 41, 32, 59], 0) ∧
 printF (withC p (xBoth n p.change)) = (((((((B ++ [117, 112, 116, 111, 32]) ++ N) ++ [32, 40, 32]) ++ E) ++ [32, 41, 32, 101, 108, 115, 101, 32, 40, 32]) ++ E) ++ [32, 41, 32, 59], 0) ∧
 printF (withC p (xName [120])) = (B ++ [115, 111, 109, 101, 32, 120, 32, 59], 0) ∧ joinS [nTk n] = N ∧ N.length ≤ 32 := by
 have w1 : wrP (withC p (xOne n p.change)) = true := by rw [(wrP_in p n).1, hw, hn]; rfl
 have w2 : wrP (withC p (xBoth n p.change)) = true := by rw [(wrP_in p n).2, hw, hn]; rfl
 have w3 : wrP (withC p (xName [120])) = true := by rw [wrP_with p _ hw]; kernel_rfl
 refine ⟨joinS (tokH p) ++ [32], joinS (tokE p.change), textOf (nTk n), ?_, ?_, ?_, ?_, joinS_one _, textOf_len (valid_nTk hn _ (by simp))⟩
 ·rw [printF_yes hw, text_pol]; simp
 ·rw [printF_yes w1, text_pol, tokH_with]
  show (joinS (tokH p) ++ 32 :: (joinS (tokE (xOne n p.change)) ++ [32, 59]), (0 : Int)) = _
  rw [text_one]; simp [sOf, nTk, dT]
 ·rw [printF_yes w2, text_pol, tokH_with]
  show (joinS (tokH p) ++ 32 :: (joinS (tokE (xBoth n p.change)) ++ [32, 59]), (0 : Int)) = _
  rw [text_both]; simp [sUpto, sOpen, sElse, nTk, dT]
 ·rw [printF_yes w3, text_pol, tokH_with]
  show (joinS (tokH p) ++ 32 :: (joinS (tokE (xName [120])) ++ [32, 59]), (0 : Int)) = _
  rw [text_name]; simp [kSome]
theorem bNum (n : Int) : buildEv Tryz.prog 43 [(0, .v (.int .i64 2)), (2, .v (.int .i64 n))] = some (.agg (nTk n).row) := by kernel_rfl
theorem syntaxInside_law (p : Po) (t : PT) (ok : POk p t) (n : Int) : ∃ h', W.call 8 [.agg (prow p t), .v (.int .i64 n)] Heap.init = some (.ret (.v (.bool true)), h') ∧ True := by
 have u9 := Tryz.underlying9
 have a28 := ag28; have s28 := sz28; have z28 := zc28; have a3 := ag3; have a9 := ag9; have a31 := ag31'; have a26 := ag26; have s26 := sz26
 obtain ⟨h1, c1, x1⟩ := sane_ev (Heap.init.push (prow p t)) rfl
 have o1 : okHeap h1 = true := x1.ok rfl
 have k1 := x1.box _ _ (push_last Heap.init (prow p t))
 obtain ⟨h2, c2, x2⟩ := fewQ_ev p t ok h1
 have o2 := x2.ok o1
 have k2 := x2.box _ _ k1
 refine call_ex rfl Tryz.func8 rfl ?_
 cases hf : fewQ p with
 | false =>
  rw [hf] at c2
  clear x1 x2 ok
  repeat' (first | simp (config := { maxSteps := 4000000 }) (disch := first | exact dZ | fail) only [goS, plainEv, resultsEv, resultListEv, reduceIte, Nat.reduceEqDiff, goT, beq_self_eq_true, goH, goU, rs8, prs, load28, put_push_eq, push_len, *] | (refine dX ?_ ?_ <;> (intro _; try (exfalso; omega))) | (refine dY ?_ ?_ <;> intro _) | fail)
  all_goals exact answerT rfl
 | true =>
 rw [hf] at c2
 have F := fewQ_of hf
 have hl := few_tok F
 obtain ⟨l1, l2, l3⟩ := few_three F n
 obtain ⟨h3, c3, x3⟩ := print_ev p t ok (by omega) h2 o2
 have o3 := x3.ok o2
 have k3 := x3.box _ _ k2
 have o4 : okHeap ((h3.push (prow (withC p (xOne n p.change)) (tOne p t))).push (prow (withC p (xBoth n p.change)) (tBoth p t))) = true := o3
 obtain ⟨h5, c5, x5⟩ := print_ev _ _ (okOne ok n) (by omega) _ o4
 have o5 := x5.ok o4
 obtain ⟨h6, c6, x6⟩ := print_ev _ _ (okBoth ok n) (by omega) h5 o5
 have o6 := x6.ok o5
 have m5 := x5.box (h3.boxes.length + 1) (prow (withC p (xBoth n p.change)) (tBoth p t)) (by
  have := push_last (h3.push (prow (withC p (xOne n p.change)) (tOne p t))) (prow (withC p (xBoth n p.change)) (tBoth p t))
  rw [push_len] at this
  exact this)
 have k6 := x6.box _ _ (x5.box _ _ (push_old (cs := prow (withC p (xBoth n p.change)) (tBoth p t)) (push_old (cs := prow (withC p (xOne n p.change)) (tOne p t)) k3)))
 have n3 := (List.getElem?_eq_some_iff.1 k3).1
 have n5 := (List.getElem?_eq_some_iff.1 m5).1
 have n6 := (List.getElem?_eq_some_iff.1 k6).1
 have khs := Keep.mk (pol_same ok)
 repeat' (first | simp (config := { maxSteps := 4000000 }) (disch := first | exact dZ | fail) only [goS, plainEv, resultsEv, resultListEv, reduceIte, Nat.reduceEqDiff, goT, beq_self_eq_true, goH, goU, rs8, prs, fp28, load28, load28_4, put_push_eq, put_push_ne, push_len, st28, and_self, *] | (refine dX ?_ ?_ <;> (intro _; try (exfalso; omega))) | (refine dY ?_ ?_ <;> intro _) | fail)
 refine run_draw_swap 2 [(0, 2), (1, 2), (0, 3), (1, 3), (1, 4)] (by decide) (by kernel_rfl) (by kernel_rfl) (by kernel_rfl) ?_ ?_
 ·intro pr hpr
  simp only [List.mem_cons, List.not_mem_nil, or_false] at hpr
  rcases hpr with rfl | rfl | rfl | rfl | rfl
  ·refine stable_before (x := .ptr (.box Heap.init.boxes.length) 0) (v := .agg (prow p t)) (by kernel_rfl) rfl rfl rfl (by kernel_rfl) khs.out ?_ ?_
   ·simp only [List.take_succ_cons, List.take_zero]
    repeat' (first | simp (config := { maxSteps := 4000000 }) (disch := first | exact dZ | fail) only [goS, plainEv, resultsEv, resultListEv, reduceIte, Nat.reduceEqDiff, goT, beq_self_eq_true, goH, goU, rs8, prs, fp28, load28, load28_4, put_push_eq, put_push_ne, push_len, st28, and_self, *] | (refine dX ?_ ?_ <;> (intro _; try (exfalso; omega))) | (refine dY ?_ ?_ <;> intro _) | fail)
   ·simp only [List.take_succ_cons, List.take_zero]
    repeat' (first | simp (config := { maxSteps := 4000000 }) (disch := first | exact dZ | fail) only [goS, plainEv, resultsEv, resultListEv, reduceIte, Nat.reduceEqDiff, goT, beq_self_eq_true, goH, goU, rs8, prs, fp28, load28, load28_4, put_push_eq, put_push_ne, push_len, st28, and_self, *] | (refine dX ?_ ?_ <;> (intro _; try (exfalso; omega))) | (refine dY ?_ ?_ <;> intro _) | fail)
  ·refine stable_before (x := .ptr (.box Heap.init.boxes.length) 0) (v := .agg (prow p t)) (by kernel_rfl) rfl rfl rfl (by kernel_rfl) khs.out ?_ ?_
   ·simp only [List.take_succ_cons, List.take_zero]
    repeat' (first | simp (config := { maxSteps := 4000000 }) (disch := first | exact dZ | fail) only [goS, plainEv, resultsEv, resultListEv, reduceIte, Nat.reduceEqDiff, goT, beq_self_eq_true, goH, goU, rs8, prs, fp28, load28, load28_4, put_push_eq, put_push_ne, push_len, st28, and_self, *] | (refine dX ?_ ?_ <;> (intro _; try (exfalso; omega))) | (refine dY ?_ ?_ <;> intro _) | fail)
   ·simp only [List.take_succ_cons, List.take_zero]
    repeat' (first | simp (config := { maxSteps := 4000000 }) (disch := first | exact dZ | fail) only [goS, plainEv, resultsEv, resultListEv, reduceIte, Nat.reduceEqDiff, goT, beq_self_eq_true, goH, goU, rs8, prs, fp28, load28, load28_4, put_push_eq, put_push_ne, push_len, st28, and_self, *] | (refine dX ?_ ?_ <;> (intro _; try (exfalso; omega))) | (refine dY ?_ ?_ <;> intro _) | fail)
  ·refine stable_before (x := .ptr (.box Heap.init.boxes.length) 0) (v := .agg (prow p t)) (by kernel_rfl) rfl rfl rfl (by kernel_rfl) khs.out ?_ ?_
   ·simp only [List.take_succ_cons, List.take_zero]
    repeat' (first | simp (config := { maxSteps := 4000000 }) (disch := first | exact dZ | fail) only [goS, plainEv, resultsEv, resultListEv, reduceIte, Nat.reduceEqDiff, goT, beq_self_eq_true, goH, goU, rs8, prs, fp28, load28, load28_4, put_push_eq, put_push_ne, push_len, st28, and_self, *] | (refine dX ?_ ?_ <;> (intro _; try (exfalso; omega))) | (refine dY ?_ ?_ <;> intro _) | fail)
   ·simp only [List.take_succ_cons, List.take_zero]
    repeat' (first | simp (config := { maxSteps := 4000000 }) (disch := first | exact dZ | fail) only [goS, plainEv, resultsEv, resultListEv, reduceIte, Nat.reduceEqDiff, goT, beq_self_eq_true, goH, goU, rs8, prs, fp28, load28, load28_4, put_push_eq, put_push_ne, push_len, st28, and_self, *] | (refine dX ?_ ?_ <;> (intro _; try (exfalso; omega))) | (refine dY ?_ ?_ <;> intro _) | fail)
  ·refine stable_before (x := .ptr (.box Heap.init.boxes.length) 0) (v := .agg (prow p t)) (by kernel_rfl) rfl rfl rfl (by kernel_rfl) khs.out ?_ ?_
   ·simp only [List.take_succ_cons, List.take_zero]
    repeat' (first | simp (config := { maxSteps := 4000000 }) (disch := first | exact dZ | fail) only [goS, plainEv, resultsEv, resultListEv, reduceIte, Nat.reduceEqDiff, goT, beq_self_eq_true, goH, goU, rs8, prs, fp28, load28, load28_4, put_push_eq, put_push_ne, push_len, st28, and_self, *] | (refine dX ?_ ?_ <;> (intro _; try (exfalso; omega))) | (refine dY ?_ ?_ <;> intro _) | fail)
   ·simp only [List.take_succ_cons, List.take_zero]
    repeat' (first | simp (config := { maxSteps := 4000000 }) (disch := first | exact dZ | fail) only [goS, plainEv, resultsEv, resultListEv, reduceIte, Nat.reduceEqDiff, goT, beq_self_eq_true, goH, goU, rs8, prs, fp28, load28, load28_4, put_push_eq, put_push_ne, push_len, st28, and_self, *] | (refine dX ?_ ?_ <;> (intro _; try (exfalso; omega))) | (refine dY ?_ ?_ <;> intro _) | fail)
  ·refine stable_before (x := .ptr (.box Heap.init.boxes.length) 0) (v := .agg (prow p t)) (by kernel_rfl) rfl rfl rfl (by kernel_rfl) khs.out ?_ ?_
   ·simp only [List.take_succ_cons, List.take_zero]
    repeat' (first | simp (config := { maxSteps := 4000000 }) (disch := first | exact dZ | fail) only [goS, plainEv, resultsEv, resultListEv, reduceIte, Nat.reduceEqDiff, goT, beq_self_eq_true, goH, goU, rs8, prs, fp28, load28, load28_4, put_push_eq, put_push_ne, push_len, st28, and_self, *] | (refine dX ?_ ?_ <;> (intro _; try (exfalso; omega))) | (refine dY ?_ ?_ <;> intro _) | fail)
   ·simp only [List.take_succ_cons, List.take_zero]
    repeat' (first | simp (config := { maxSteps := 4000000 }) (disch := first | exact dZ | fail) only [goS, plainEv, resultsEv, resultListEv, reduceIte, Nat.reduceEqDiff, goT, beq_self_eq_true, goH, goU, rs8, prs, fp28, load28, load28_4, put_push_eq, put_push_ne, push_len, st28, and_self, *] | (refine dX ?_ ?_ <;> (intro _; try (exfalso; omega))) | (refine dY ?_ ?_ <;> intro _) | fail)
 by_cases hgood : wrP p = true ∧ numW n = true
 rotate_left 1
 ·have hb1 : ¬ wrP (withC p (xOne n p.change)) = true := fun q => hgood (by rw [(wrP_in p n).1, Bool.and_eq_true] at q; exact q)
  have hb2 : ¬ wrP (withC p (xBoth n p.change)) = true := fun q => hgood (by rw [(wrP_in p n).2, Bool.and_eq_true] at q; exact q)
  rw [printF_no hb1] at c5
  rw [printF_no hb2] at c6
  dsimp only at c5 c6
  have hbad : (printF p).2 ≠ 0 ∨ n < 0 ∨ 1099511627776 < n := by
   by_cases hw : wrP p = true
   ·right
    have hn : ¬ numW n = true := fun q => hgood ⟨hw, q⟩
    unfold numW at hn
    rw [Bool.and_eq_true, decide_eq_true_eq, decide_eq_true_eq] at hn
    omega
   ·left
    rw [printF_no hw]
    decide
  generalize (printF p).2 = er at *
  generalize (printF p).1 = tx at *
  clear x1 x2 x3 x5 x6 ok khs hf F hl l1 l2 l3 hgood hb1 hb2 o1 o2 o3 o4 o5 o6
  rcases hbad with q | q | q
  ·repeat' (first | simp (config := { maxSteps := 4000000 }) (disch := first | exact dZ | fail) only [goS, plainEv, resultsEv, resultListEv, reduceIte, Nat.reduceEqDiff, goT, beq_self_eq_true, goH, goU, rs8, prs, fp28, load28, load28_4, st28, stOne, stBoth, bOne, bBoth, bsl1, bsl2, put_push_eq, put_push_ne, push_len, *] | ((first | refine G_d ?_ ?_ | refine G_n ?_ ?_ | refine B_d ?_ ?_ | refine B_n ?_ ?_) <;> (intro _; try (exfalso; omega))) | refine run_draw (by kernel_rfl) ?_ | ((first | refine G_m ?_ ?_ | refine B_m ?_ ?_ | refine G_b ?_ ?_ | refine B_b ?_ ?_) <;> intro _))
   all_goals exact answerT rfl
  ·repeat' (first | simp (config := { maxSteps := 4000000 }) (disch := first | exact dZ | fail) only [goS, plainEv, resultsEv, resultListEv, reduceIte, Nat.reduceEqDiff, goT, beq_self_eq_true, goH, goU, rs8, prs, fp28, load28, load28_4, st28, stOne, stBoth, bOne, bBoth, bsl1, bsl2, put_push_eq, put_push_ne, push_len, *] | ((first | refine G_d ?_ ?_ | refine G_n ?_ ?_ | refine B_d ?_ ?_ | refine B_n ?_ ?_) <;> (intro _; try (exfalso; omega))) | refine run_draw (by kernel_rfl) ?_ | ((first | refine G_m ?_ ?_ | refine B_m ?_ ?_ | refine G_b ?_ ?_ | refine B_b ?_ ?_) <;> intro _))
   all_goals exact answerT rfl
  ·repeat' (first | simp (config := { maxSteps := 4000000 }) (disch := first | exact dZ | fail) only [goS, plainEv, resultsEv, resultListEv, reduceIte, Nat.reduceEqDiff, goT, beq_self_eq_true, goH, goU, rs8, prs, fp28, load28, load28_4, st28, stOne, stBoth, bOne, bBoth, bsl1, bsl2, put_push_eq, put_push_ne, push_len, *] | ((first | refine G_d ?_ ?_ | refine G_n ?_ ?_ | refine B_d ?_ ?_ | refine B_n ?_ ?_) <;> (intro _; try (exfalso; omega))) | refine run_draw (by kernel_rfl) ?_ | ((first | refine G_m ?_ ?_ | refine B_m ?_ ?_ | refine G_b ?_ ?_ | refine B_b ?_ ?_) <;> intro _))
   all_goals exact answerT rfl
 obtain ⟨hw, hn⟩ := hgood
 obtain ⟨B, E, N, e1, e2, e3, e4, e5, e6⟩ := inside_text (p := p) (n := n) hw hn
 have o7 : okHeap (h6.push (prow (withC p (xName [120])) (tName t))) = true := o6
 obtain ⟨h8, c8, x8⟩ := print_ev _ _ (okName ok [120]) (by omega) _ o7
 have vn := valid_nTk hn
 have c9 := text_eq .tight 4 [nTk n] (fun _ _ => rfl) (by simp) h8
 rw [textS_ok vn, textE_ok vn, e5, show toks [nTk n] = [(nTk n).row] from rfl] at c9
 have bt := bt39 (nTk n)
 have bn := bNum n
 have jl := joinS_len (pol_valid hw)
 have e1' := e1
 rw [printF_yes hw] at e1'
 injection e1' with e1' _
 rw [e1'] at jl
 simp only [List.length_append, List.length_cons, List.length_nil] at jl
 have hn2 : 0 ≤ n ∧ n ≤ 1099511627776 := by
  unfold numW at hn
  rw [Bool.and_eq_true, decide_eq_true_eq, decide_eq_true_eq] at hn
  exact hn
 obtain ⟨hn3, hn4⟩ := hn2
 rw [e1] at c3 ⊢
 rw [e2] at c5
 rw [e3] at c6
 rw [e4] at c8
 dsimp only at c3 c5 c6 c8 ⊢
 generalize heapOf W 17 [.list .tight 4 [(nTk n).row]] h8 = h9 at *
 clear x1 x2 x3 x5 x6 x8 ok khs hf F l1 l2 l3 o1 o2 o3 o4 o5 o6 o7 e1 e2 e3 e4 e5 e1' hw hn vn
 generalize hS : B ++ (E ++ [32, 59]) = S at *
 generalize hR : B ++ [115, 111, 109, 101, 32, 120, 32, 59] = R at *
 have sR : R.length = B.length + 8 := by rw [← hR]; simp
 have sS : S.length = B.length + E.length + 2 := by rw [← hS]; simp; omega
 have f1 : Lib.hasSuffix R [115, 111, 109, 101, 32, 120, 32, 59] = true := by rw [← hR]; exact suffix_of _ _
 have f2 : Lib.hasPrefix S B = true := by rw [← hS]; exact prefix_of _ _
 have f3 : Lib.hasSuffix S [32, 59] = true := by rw [← hS, ← List.append_assoc]; exact suffix_of _ _
 have l8 : ([115, 111, 109, 101, 32, 120, 32, 59] : List UInt8).length = 8 := rfl
 have f4 : R.take ((R.length : Int) - ((8 : Nat) : Int)).toNat = B := by
  rw [sR, show (((B.length + 8 : Nat) : Int) - ((8 : Nat) : Int)).toNat = B.length by omega, ← hR, List.take_left]
 have f5 : (S.take ((S.length : Int) - 2).toNat).drop B.length = E := by
  rw [sS, show (((B.length + E.length + 2 : Nat) : Int) - 2).toNat = B.length + E.length by omega, ← hS, ← List.append_assoc, ← List.length_append, List.take_left, List.drop_left]
 have g1 := evSuffix R [115, 111, 109, 101, 32, 120, 32, 59] (by omega)
 have g2 := evSuffix S [32, 59] (by omega)
 have g3 := ev46 S B
 rw [f1] at g1
 rw [f3] at g2
 rw [f2] at g3
 clear hS hR f1 f2 f3
 have v1 : B.length ≤ 1000000 := by omega
 have v2 : E.length ≤ 1000000 := by omega
 have sR' : (R.length : Int) = (B.length : Int) + 8 := by omega
 have sS' : (S.length : Int) = (B.length : Int) + (E.length : Int) + 2 := by omega
 have kk := Keep.mk (And.intro sR' sS')
 clear sR sS sR' sS' jl
 have w1 : 0 ≤ (R.length : Int) - ((8 : Nat) : Int) ∧ (R.length : Int) - ((8 : Nat) : Int) ≤ (R.length : Int) ∧ (R.length : Int) ≤ 2000000 := by have := kk.out; omega
 have w2 : (B.length : Int) ≤ (S.length : Int) - 2 ∧ (S.length : Int) - 2 ≤ (S.length : Int) ∧ (S.length : Int) ≤ 3000000 := by have := kk.out; omega
 obtain ⟨w3, w4, w5⟩ := w1
 obtain ⟨w6, w7, w8⟩ := w2
 repeat' (first | simp (config := { maxSteps := 4000000 }) (disch := first | exact dZ | fail) only [goS, plainEv, resultsEv, resultListEv, reduceIte, Nat.reduceEqDiff, goT, beq_self_eq_true, goH, goU, rs8, prs, fp28, load28, load28_4, st28, stOne, stBoth, stName, bOne, bBoth, bsl1, bsl2, put_push_eq, put_push_ne, push_len, lawSome_ev, bs_size, slice_str_to, slice_str, l8, *] | ((first | refine G_d ?_ ?_ | refine G_n ?_ ?_ | refine B_d ?_ ?_ | refine B_n ?_ ?_) <;> (intro _; try (exfalso; omega))) | refine run_draw (by kernel_rfl) ?_ | ((first | refine G_m ?_ ?_ | refine B_m ?_ ?_ | refine G_b ?_ ?_ | refine B_b ?_ ?_) <;> intro _))
 all_goals exact answerT rfl
end Go.Proofs.YtmdakolcndpjeaaGreatDoor
end
