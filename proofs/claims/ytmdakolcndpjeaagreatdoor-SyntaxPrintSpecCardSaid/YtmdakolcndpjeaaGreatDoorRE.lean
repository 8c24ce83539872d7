/-
 Part of the proof: RE.
-/
import Derived.Test.YtmdakolcndpjeaaGreatDoorRD
import Derived.Test.YtmdakolcndpjeaaGreatDoorRA
import Derived.Test.YtmdakolcndpjeaaGreatDoorSM
import Derived.Test.YtmdakolcndpjeaaGreatDoorSK
import Derived.Test.YtmdakolcndpjeaaGreatDoorSJ
import Derived.Test.YtmdakolcndpjeaaGreatDoorSD
set_option maxHeartbeats 64000000
set_option maxRecDepth 100000
set_option linter.unusedSimpArgs false
set_option linter.unusedVariables false
set_option linter.constructorNameAsVariable false
section
namespace Go.Proofs.YtmdakolcndpjeaaGreatDoor
open Go.AE Go.Lex Go.Pol Go.Syn
theorem rs13 : Tryz.f13.results.toList = [.tmp 2, .tmp 3] := by kernel_rfl
theorem bz70 (tok : Tok) (sz : Nat) (l : List Tk) : buildEv Tryz.prog 70 [(0, .list tok sz (toks l))] = some (.agg (pst tok sz l 0 0 false 0)) := by kernel_rfl
theorem refPrint_ev (p : Po) (t : PT) (ok : POk p t) (hlen : (tokP p).length ≤ 1048576) (h : Heap) (ho : okHeap h = true) : Says W 13 [.agg (prow p t)] h (.ret (.tuple [.v (.string (bs (printF p).1)), .v (.int .i64 (printF p).2)])) := by
 have a28 := ag28; have s28 := sz28; have z28 := zc28; have a3 := ag3; have a39 := ag39; have s39 := sz39; have a9 := ag9; have a31 := ag31'; have a70 := ag70; have s70 := sz70; have z70 := zc70; have a4 := ag4'; have u31 := Tryz.underlying31
 suffices hh : ∃ r h', W.call 13 [.agg (prow p t)] h = some (r, h') ∧ PrPost p h r h' by
  obtain ⟨r, h', a, rfl, b⟩ := hh
  exact ⟨h', a, b⟩
 unfold PrPost
 have x1 := Ext.push h (prow p t)
 obtain ⟨r2, h2, c2, tok, sz, rfl, G2, S2⟩ := tokens_ev p t ok (by omega) (h.push (prow p t)) (x1.ok ho)
 have x2 : Ext h h2 := G2.ext x1
 have pb2 := G2.box (push_last h (prow p t))
 have hne : tokP p ≠ [] := by simp [tokP]
 have hz : ∀ i : Nat, i < (tokP p).length → sz = 4 := fun _ _ => S2.size.resolve_right fun q => hne q.1
 obtain ⟨h3, c3, x3⟩ := refText_ev tok sz (tokP p) hz hlen h2
 rw [textB_eq] at c3
 have pb3 := x3.box _ _ pb2
 by_cases hv : Valid (tokP p)
 rotate_left 1
 ·have hw : ¬ wrP p = true := fun hw => hv (pol_valid hw)
  rw [printF_no hw]
  have e1 : textE (tokP p) = 30 := by
   unfold textE
   rw [if_neg]
   intro q
   exact hv fun t ht => List.all_eq_true.1 q t ht
  rw [e1] at c3
  have kx := Keep.mk (x2.trans x3)
  have lp0 := load28 (push_last h (prow p t))
  clear x1 x2 x3 G2 S2 hw hv hz
  refine call_post rfl Tryz.func13 rfl ?_
  repeat' (first | simp (config := { maxSteps := 4000000 }) (disch := first | exact dZ | fail) only [goS, plainEv, resultsEv, resultListEv, reduceIte, Nat.reduceEqDiff, goT, beq_self_eq_true, goH, goU, rs13, prs, push_len, *] | (refine dX ?_ ?_ <;> (intro _; try (exfalso; omega))) | (refine dY ?_ ?_ <;> intro _) | fail)
  exact ⟨_, _, rfl, rfl, kx.out⟩
 have e1 : textE (tokP p) = 0 := by
  unfold textE
  rw [if_pos]
  exact List.all_eq_true.2 fun t ht => hv t ht
 have e2 : textS (tokP p) = joinS (tokP p) := by
  unfold textS
  rw [if_pos]
  exact List.all_eq_true.2 fun t ht => hv t ht
 rw [e1, e2] at c3
 have D : Rd0 tok sz (tokP p) := ⟨hz, by omega⟩
 have hP : PsRow tok sz (tokP p) 0 (.good (tokP p)) (pst tok sz (tokP p) 0 0 false 0) := ⟨0, Nat.zero_le _, rfl, rfl⟩
 obtain ⟨r4, h4, c4, x4, v4, row4, x, rfl, p4, ⟨u, rfl, hu⟩, q4⟩ := rfRead (m := (tokP p).length + 1) D hv hP (fun r hr => by injection hr with hr; subst hr; omega) h3 (x3.ok (x2.ok ho))
 have pb4 := x4.box _ _ pb3
 have lp0 := load28 (push_last h (prow p t))
 have lb4 := (List.getElem?_eq_some_iff.1 pb4).1
 have hiff := refPrint_iff (p := p) (m := (tokP p).length + 1) (by omega) hv
 have X := ((x2.trans x3).trans x4).trans (Ext.push h4 (prow x u))
 cases w : wholeR ((tokP p).length + 1) (tokP p) with
 | bad q =>
  rw [runP_no w] at p4
  obtain ⟨n4, hn4, rfl⟩ := p4
  have hw : ¬ wrP p = true := fun hw => by
   obtain ⟨r, hr⟩ := hiff.2 hw
   rw [w] at hr
   cases hr
  rw [printF_no hw]
  have kx := Keep.mk (X.trans (.push _ (pst tok sz (tokP p) n4 0 true (failAt 0 q))))
  clear x1 x2 x3 x4 G2 S2 hw hv hz D hP q4 hiff X hu
  refine call_post rfl Tryz.func13 rfl ?_
  repeat' (first | simp (config := { maxSteps := 4000000 }) (disch := first | exact dZ | fail) only [goS, plainEv, resultsEv, resultListEv, reduceIte, Nat.reduceEqDiff, goT, beq_self_eq_true, goH, goU, rs13, prs, pss, fp70, bz70, store28, st70, ld70, load28, put_push_eq, put_push_ne, push_len, *] | (refine dX ?_ ?_ <;> (intro _; try (exfalso; omega))) | (refine dY ?_ ?_ <;> intro _) | fail)
  exact ⟨_, _, rfl, rfl, kx.out⟩
 | ok y q =>
  rw [runP_ok w] at p4 q4
  obtain ⟨n4, hn4, -, rfl⟩ := p4
  obtain rfl := q4 y rfl
  obtain ⟨h5, c5, x5⟩ := same_ev x p u t hu ok ((h4.push (prow x u)).push (pst tok sz (tokP p) n4 0 false 0))
  have kx := Keep.mk ((X.trans (.push _ (pst tok sz (tokP p) n4 0 false 0))).trans x5)
  by_cases hxp : x = p
  ·subst hxp
   have hw : wrP x = true := hiff.1 ⟨q, w⟩
   rw [sameP_iff.2 rfl] at c5
   rw [printF_yes hw]
   clear x1 x2 x3 x4 x5 G2 S2 hw hv hz D hP q4 hiff X hu
   refine call_post rfl Tryz.func13 rfl ?_
   repeat' (first | simp (config := { maxSteps := 4000000 }) (disch := first | exact dZ | fail) only [goS, plainEv, resultsEv, resultListEv, reduceIte, Nat.reduceEqDiff, goT, beq_self_eq_true, goH, goU, rs13, prs, pss, fp70, bz70, store28, st70, ld70, load28, put_push_eq, put_push_ne, push_len, *] | (refine dX ?_ ?_ <;> (intro _; try (exfalso; omega))) | (refine dY ?_ ?_ <;> intro _) | fail)
   exact ⟨_, _, rfl, rfl, kx.out⟩
  ·have hw : ¬ wrP p = true := fun hw => by
    obtain ⟨r, hr⟩ := hiff.2 hw
    rw [w] at hr
    injection hr with hr
    exact hxp hr
   rw [sameP_no hxp] at c5
   rw [printF_no hw]
   clear x1 x2 x3 x4 x5 G2 S2 hw hv hz D hP q4 hiff X hu
   refine call_post rfl Tryz.func13 rfl ?_
   repeat' (first | simp (config := { maxSteps := 4000000 }) (disch := first | exact dZ | fail) only [goS, plainEv, resultsEv, resultListEv, reduceIte, Nat.reduceEqDiff, goT, beq_self_eq_true, goH, goU, rs13, prs, pss, fp70, bz70, store28, st70, ld70, load28, put_push_eq, put_push_ne, push_len, *] | (refine dX ?_ ?_ <;> (intro _; try (exfalso; omega))) | (refine dY ?_ ?_ <;> intro _) | fail)
   exact ⟨_, _, rfl, rfl, kx.out⟩
theorem rs3 : Tryz.f3.results.toList = [.tmp 2] := by kernel_rfl
theorem syntaxPrintSpec_law (p : Po) (t : PT) (ok : POk p t) : ∃ h', W.call 3 [.agg (prow p t)] Heap.init = some (.ret (.v (.bool true)), h') ∧ True := by
 have u9 := Tryz.underlying9; have u31 := Tryz.underlying31
 have a28 := ag28; have s28 := sz28; have z28 := zc28; have a3 := ag3; have a9 := ag9; have a31 := ag31'
 obtain ⟨h1, c1, x1⟩ := sane_ev (Heap.init.push (prow p t)) rfl
 have o1 : okHeap h1 = true := x1.ok rfl
 have k1 := x1.box _ _ (push_last Heap.init (prow p t))
 obtain ⟨h2, c2, x2⟩ := fewQ_ev p t ok h1
 have k2 := x2.box _ _ k1
 have o2 := x2.ok o1
 cases hf : fewQ p with
 | false =>
  rw [hf] at c2
  clear x1 x2 ok hf
  refine call_ex rfl Tryz.func3 rfl ?_
  repeat' (first | simp (config := { maxSteps := 4000000 }) (disch := first | exact dZ | fail) only [goS, plainEv, resultsEv, resultListEv, reduceIte, Nat.reduceEqDiff, goT, beq_self_eq_true, goH, goU, rs3, prs, load28, push_len, *] | (refine dX ?_ ?_ <;> (intro _; try (exfalso; omega))) | (refine dY ?_ ?_ <;> intro _) | fail)
  all_goals exact answerT rfl
 | true =>
  rw [hf] at c2
  have hl := few_tok (fewQ_of hf)
  obtain ⟨h3, c3, x3⟩ := print_ev p t ok (by omega) h2 o2
  have k3 := x3.box _ _ k2
  obtain ⟨h4, c4, x4⟩ := refPrint_ev p t ok (by omega) h3 (x3.ok o2)
  clear x1 x2 x3 x4 ok hf hl
  generalize (printF p).1 = ps at *
  generalize (printF p).2 = pe at *
  refine call_ex rfl Tryz.func3 rfl ?_
  repeat' (first | simp (config := { maxSteps := 4000000 }) (disch := first | exact dZ | fail) only [goS, plainEv, resultsEv, resultListEv, reduceIte, Nat.reduceEqDiff, goT, beq_self_eq_true, goH, goU, rs3, prs, load28, push_len, *] | (refine dX ?_ ?_ <;> (intro _; try (exfalso; omega))) | (refine dY ?_ ?_ <;> intro _) | fail)
  all_goals exact answerT rfl
end Go.Proofs.YtmdakolcndpjeaaGreatDoor
end
