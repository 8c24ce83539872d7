/-
 Part of the proof: RD.
-/
import Derived.Test.YtmdakolcndpjeaaGreatDoorRC
import Derived.Test.YtmdakolcndpjeaaGreatDoorSG
import Derived.Test.YtmdakolcndpjeaaGreatDoorSJ
set_option maxHeartbeats 64000000
set_option maxRecDepth 100000
set_option linter.unusedSimpArgs false
set_option linter.unusedVariables false
set_option linter.constructorNameAsVariable false
section
namespace Go.Proofs.YtmdakolcndpjeaaGreatDoor
open Go.AE Go.Lex Go.Pol Go.Syn
structure Four (h : Heap) (b : Nat) (r0 r1 r2 r3 : List AV) : Prop where
 b0 : h.boxes[b]? = some r0
 b1 : h.boxes[b + 1]? = some r1
 b2 : h.boxes[b + 1 + 1]? = some r2
 b3 : h.boxes[b + 1 + 1 + 1]? = some r3
section
variable {h h' : Heap} {b : Nat} {r0 r1 r2 r3 : List AV}
theorem Four.ext (F : Four h b r0 r1 r2 r3) (x : Ext h h') : Four h' b r0 r1 r2 r3 := ⟨x.box _ _ F.b0, x.box _ _ F.b1, x.box _ _ F.b2, x.box _ _ F.b3⟩
theorem Four.len (F : Four h b r0 r1 r2 r3) : b + 1 + 1 + 1 < h.boxes.length := (List.getElem?_eq_some_iff.1 F.b3).1
theorem Four.put (F : Four h b r0 r1 r2 r3) (r0' r3' : List AV) : Four ((h.put (b + 1 + 1 + 1) r3').put b r0') b r0' r1 r2 r3' := by
 have := F.len
 refine ⟨put_this (by rw [put_len]; omega), ?_, ?_, ?_⟩
 ·rw [put_other (by omega), put_other (by omega)]; exact F.b1
 ·rw [put_other (by omega), put_other (by omega)]; exact F.b2
 ·rw [put_other (by omega)]; exact put_this this
theorem Four.put0 (F : Four h b r0 r1 r2 r3) (r0' : List AV) : Four (h.put b r0') b r0' r1 r2 r3 := by
 have := F.len
 refine ⟨put_this (by omega), ?_, ?_, ?_⟩
 ·rw [put_other (by omega)]; exact F.b1
 ·rw [put_other (by omega)]; exact F.b2
 ·rw [put_other (by omega)]; exact F.b3
theorem Four.put3 (F : Four h b r0 r1 r2 r3) (r3' : List AV) : Four (h.put (b + 1 + 1 + 1) r3') b r0 r1 r2 r3' := by
 have := F.len
 refine ⟨?_, ?_, ?_, put_this this⟩
 ·rw [put_other (by omega)]; exact F.b0
 ·rw [put_other (by omega)]; exact F.b1
 ·rw [put_other (by omega)]; exact F.b2
theorem Four.mk0 (h : Heap) (r0 r1 r2 r3 : List AV) : Four ((((h.push r0).push r1).push r2).push r3) h.boxes.length r0 r1 r2 r3 := by
 refine ⟨push_old (push_old (push_old (push_last h r0))), push_old (push_old ?_), push_old ?_, ?_⟩
 ·have := push_last (h.push r0) r1; rw [push_len] at this; exact this
 ·have := push_last ((h.push r0).push r1) r2; rw [push_len, push_len] at this; exact this
 ·have := push_last (((h.push r0).push r1).push r2) r3; rw [push_len, push_len, push_len] at this; exact this
theorem _root_.Go.AE.Ext.put_two {h0 : Heap} (x : Ext h0 h) (hb : h0.boxes.length ≤ b) (r0' r3' : List AV) : Ext h0 ((h.put (b + 1 + 1 + 1) r3').put b r0') := (x.put_new (by omega) r3').put_new hb r0'
end
theorem bz62 : buildEv Tryz.prog 62 [] = some (.agg (rrow ⟨[], 0, 0, .mk 0 0 0 [] []⟩ .nil 0 [])) := by kernel_rfl
theorem rs97 : Tryz.f97.results.toList = [.cell 2 62, .cell 3 70] := by kernel_rfl
theorem same_rrow {x : Rl} {tok : Tok} {sz : Nat} {rows : List (List AV)} (h : Row x.expr (r5 x tok sz rows)) : sameAV (.agg (rrow x tok sz rows)) (.agg (rrow x tok sz rows)) = true := by
 have hr : RRow x (rrow x tok sz rows) := RRow.mk h
 have := rrows_same (RRows.snoc RRows.nil hr)
 simpa [sameAV, sameRows] using this
section
variable {tok : Tok} {sz : Nat} {l : List Tk} {e : Int}
theorem rfRule {m : Nat} (D : Rd0 tok sz l) (hv : Valid l) {s : Ps} {row : List AV} (hr : PsRow tok sz l e s row) (hl : Lt m s) (h : Heap) (ho : okHeap h = true) : Steps1 encR 97 [.agg row] tok sz l e h (runP (ruleP m) e s) := by
 have a70 := ag70; have s70 := sz70; have z70 := zc70; have a4 := ag4'; have a26 := ag26; have s26 := sz26; have z26 := zc26; have a62 := ag62; have s62 := sz62; have z62 := zc62; have a9 := ag9
 have F0 := Four.mk0 h row (rrow ⟨[], 0, 0, .mk 0 0 0 [] []⟩ .nil 0 []) (pst .nil 0 [] 0 0 false 0) (rrow ⟨[], 0, 0, .mk 0 0 0 [] []⟩ .nil 0 [])
 have X0 : Ext h ((((h.push row).push (rrow ⟨[], 0, 0, .mk 0 0 0 [] []⟩ .nil 0 [])).push (pst .nil 0 [] 0 0 false 0)).push (rrow ⟨[], 0, 0, .mk 0 0 0 [] []⟩ .nil 0 [])) := (((Ext.push h row).trans (.push _ _)).trans (.push _ _)).trans (.push _ _)
 obtain ⟨r1, h1, c1, x1, row1, rfl, p1⟩ := rfWord D hv hr kRule (by decide) ((((h.push row).push (rrow ⟨[], 0, 0, .mk 0 0 0 [] []⟩ .nil 0 [])).push (pst .nil 0 [] 0 0 false 0)).push (rrow ⟨[], 0, 0, .mk 0 0 0 [] []⟩ .nil 0 []))
 have l1 := hl.step (e := e) fun r u q w => Nat.le_of_lt (want_lt kRule r u q w)
 obtain ⟨r2, h2, c2, x2, v2, row2, s2, rfl, p2, rfl, q2⟩ := rfName D p1 h1
 have l2 := l1.step (e := e) fun r u q w => Nat.le_of_lt (name_lt r u q w)
 have F1 := (F0.ext (x1.trans x2)).put row2 (rrow ⟨s2, 0, 0, .mk 0 0 0 [] []⟩ .nil 0 [])
 have X1 := ((X0.trans x1).trans x2).put_two (Nat.le_refl _) row2 (rrow ⟨s2, 0, 0, .mk 0 0 0 [] []⟩ .nil 0 [])
 obtain ⟨r3, h3, c3, x3, row3, rfl, p3⟩ := rfWord D hv p2 kThink (by decide) ((h2.put (h.boxes.length + 1 + 1 + 1) (rrow ⟨s2, 0, 0, .mk 0 0 0 [] []⟩ .nil 0 [])).put h.boxes.length row2)
 have l3 := l2.step (e := e) fun r u q w => Nat.le_of_lt (want_lt kThink r u q w)
 obtain ⟨r4, h4, c4, x4, v4, row4, n4, rfl, p4, rfl, q4⟩ := rfNumber D p3 h3
 have l4 := l3.step (e := e) fun r u q w => Nat.le_of_lt (num_lt r u q w)
 have F2 := (F1.ext (x3.trans x4)).put row4 (rrow ⟨s2, 0, n4, .mk 0 0 0 [] []⟩ .nil 0 [])
 have X2 := ((X1.trans x3).trans x4).put_two (Nat.le_refl _) row4 (rrow ⟨s2, 0, n4, .mk 0 0 0 [] []⟩ .nil 0 [])
 obtain ⟨r5', h5, c5, x5, row5', rfl, p5⟩ := rfSign D hv p4 cEq (by decide) ((h4.put (h.boxes.length + 1 + 1 + 1) (rrow ⟨s2, 0, n4, .mk 0 0 0 [] []⟩ .nil 0 [])).put h.boxes.length row4)
 have l5 := l4.step (e := e) fun r u q w => Nat.le_of_lt (want_lt cEq r u q w)
 obtain ⟨r6, h6, c6, x6, v6, row6, xe, rfl, p6, ⟨re, rfl, hxe⟩, q6⟩ := rfWhole (rfExpr D hv m) p5 l5 h5 ((X2.trans x5).ok ho)
 obtain ⟨tke, sze, rwe, rfl, -⟩ := Row.five hxe
 have F3 := (F2.ext (x5.trans x6)).put row6 (rrow ⟨s2, 0, n4, xe⟩ tke sze rwe)
 have X3 := ((X2.trans x5).trans x6).put_two (Nat.le_refl _) row6 (rrow ⟨s2, 0, n4, xe⟩ tke sze rwe)
 obtain ⟨r7, h7, c7, x7, row7, rfl, p7⟩ := rfSign D hv p6 cSemi (by decide) ((h6.put (h.boxes.length + 1 + 1 + 1) (rrow ⟨s2, 0, n4, xe⟩ tke sze rwe)).put h.boxes.length row6)
 have F4 := F3.ext x7
 have hfin : runP (ruleP m) e s = runP (fun r => PR.ok (⟨s2, 0, n4, xe⟩ : Rl) r) e (runP (wantT cSemi) e (runP (exprP m) e (runP (wantT cEq) e (runP numP e (runP (wantT kThink) e (runP nameP e (runP (wantT kRule) e s).2).2).2).2).2).2).2 := by
  show runP (fun r => (wantT kRule r).bind fun _ r => (nameP r).bind fun s r => (wantT kThink r).bind fun _ r => (numP r).bind fun n r => (wantT cEq r).bind fun _ r => (exprP m r).bind fun x r => (wantT cSemi r).bind fun _ r => .ok (⟨s, 0, n, x⟩ : Rl) r) e s = _
  rw [runP_step (x := ()) (fun y _ => rfl), runP_step q2, runP_step (x := ()) (fun y _ => rfl), runP_step q4, runP_step (x := ()) (fun y _ => rfl), runP_step q6, runP_step (x := ()) (fun y _ => rfl)]
 rw [hfin]
 obtain ⟨w1, w2⟩ := runP_last (e := e) (⟨s2, 0, n4, xe⟩ : Rl) (runP (wantT cSemi) e (runP (exprP m) e (runP (wantT cEq) e (runP numP e (runP (wantT kThink) e (runP nameP e (runP (wantT kRule) e s).2).2).2).2).2).2).2
 unfold Steps1
 rw [w1]
 obtain ⟨k0, bb0, a0, rfl⟩ := hr.some_row
 obtain ⟨k1, bb1, a1, rfl⟩ := p1.some_row
 obtain ⟨k2, bb2, a2, rfl⟩ := p2.some_row
 obtain ⟨k3, bb3, a3, rfl⟩ := p3.some_row
 obtain ⟨k4, bb4, a4', rfl⟩ := p4.some_row
 obtain ⟨k5, bb5, a5, rfl⟩ := p5.some_row
 obtain ⟨k6, bb6, a6, rfl⟩ := p6.some_row
 obtain ⟨k7, bb7, a7, rfl⟩ := p7.some_row
 have hxr : Row (⟨s2, 0, n4, xe⟩ : Rl).expr (r5 ⟨s2, 0, n4, xe⟩ tke sze rwe) := hxe
 have hsame := same_rrow hxr
 have G1 := F0.ext (x1.trans x2)
 have G2 := F1.ext (x3.trans x4)
 have G3 := F2.ext (x5.trans x6)
 have f1 := G1.b3; have f2 := G1.put3 (rrow ⟨s2, 0, 0, .mk 0 0 0 [] []⟩ .nil 0 []) |>.b0; have f3 := F1.b0
 have g1 := G2.b3; have g2 := G2.put3 (rrow ⟨s2, 0, n4, .mk 0 0 0 [] []⟩ .nil 0 []) |>.b0; have g3 := F2.b0
 have i1 := G3.b3; have i2 := G3.put3 (rrow ⟨s2, 0, n4, xe⟩ tke sze rwe) |>.b0; have i3 := F3.b0; have i4 := F3.b3
 have j1 := F4.b1; have j2 := F4.b2; have j3 := F4.b3
 have lj := F4.len
 have y1 : ((h7.put (h.boxes.length + 1) (rrow ⟨s2, 0, n4, xe⟩ tke sze rwe)).put (h.boxes.length + 1 + 1) (pst tok sz l k7 e bb7 a7)).boxes[h.boxes.length + 1]? = some (rrow ⟨s2, 0, n4, xe⟩ tke sze rwe) := by rw [put_other (by omega)]; exact put_this (by omega)
 have y2 : ((h7.put (h.boxes.length + 1) (rrow ⟨s2, 0, n4, xe⟩ tke sze rwe)).put (h.boxes.length + 1 + 1) (pst tok sz l k7 e bb7 a7)).boxes[h.boxes.length + 1 + 1]? = some (pst tok sz l k7 e bb7 a7) := put_this (by rw [put_len]; omega)
 have kx := Keep.mk (((X3.trans x7).put_new (b := h.boxes.length + 1) (by omega) (rrow ⟨s2, 0, n4, xe⟩ tke sze rwe)).put_new (b := h.boxes.length + 1 + 1) (by omega) (pst tok sz l k7 e bb7 a7))
 have kw := Keep.mk w2
 have kp := Keep.mk p7
 have kxr := Keep.mk hxr
 clear D hv hr hl ho p1 p2 p3 p4 p5 p6 p7 q2 q4 q6 hfin w1 w2 l1 l2 l3 l4 l5 x1 x2 x3 x4 x5 x6 x7 X0 X1 X2 X3 F0 F1 F2 F3 F4 G1 G2 G3 hxe hxr
 simp only [kRule, kThink] at c1 c3
 simp only [cEq, cSemi] at c5 c7
 refine call_post rfl Tryz.func97 rfl ?_
 repeat' (first | simp (config := { maxSteps := 4000000 }) (disch := first | exact dZ | fail) only [goS, plainEv, resultsEv, resultListEv, reduceIte, Nat.reduceEqDiff, goT, beq_self_eq_true, goH, goU, rs97, pss, ld70, st70, bz62, fp62, st62, st62_0, st62_2, st62_3, ld62, put_push_eq, put_push_ne, push_len, *] | (refine dX ?_ ?_ <;> (intro _; try (exfalso; omega))) | (refine dY ?_ ?_ <;> intro _) | fail)
 refine run_draw_but [(0, 2)] (by kernel_rfl) ?_ ?_
 ·intro pr hp
  simp only [List.mem_singleton] at hp
  subst hp
  refine stable_before (x := .ptr (.box (h.boxes.length + 1 + 1 + 1)) 0) (v := .agg (rrow ⟨s2, 0, n4, xe⟩ tke sze rwe)) (by kernel_rfl) rfl rfl rfl (by kernel_rfl) hsame ?_ ?_
  ·simp only [List.take_succ_cons, List.take_zero]
   repeat' (first | simp (config := { maxSteps := 4000000 }) (disch := first | exact dZ | fail) only [goS, plainEv, resultsEv, resultListEv, reduceIte, Nat.reduceEqDiff, goT, beq_self_eq_true, goH, goU, pss, ld62, ld70, push_len, *] | (refine dX ?_ ?_ <;> (intro _; try (exfalso; omega))) | (refine dY ?_ ?_ <;> intro _) | fail)
   exact ⟨by trivial, by trivial, by trivial⟩
  ·simp only [List.take_succ_cons, List.take_zero]
   repeat' (first | simp (config := { maxSteps := 4000000 }) (disch := first | exact dZ | fail) only [goS, plainEv, resultsEv, resultListEv, reduceIte, Nat.reduceEqDiff, goT, beq_self_eq_true, goH, goU, pss, ld62, ld70, push_len, *] | (refine dX ?_ ?_ <;> (intro _; try (exfalso; omega))) | (refine dY ?_ ?_ <;> intro _) | fail)
   exact ⟨by trivial, by trivial⟩
 repeat' (first | simp (config := { maxSteps := 4000000 }) (disch := first | exact dZ | fail) only [goS, plainEv, resultsEv, resultListEv, reduceIte, Nat.reduceEqDiff, goT, beq_self_eq_true, goH, goU, rs97, pss, ld70, st70, fp62, st62, ld62, put_push_eq, put_push_ne, push_len, *] | (refine dX ?_ ?_ <;> (intro _; try (exfalso; omega))) | (refine dY ?_ ?_ <;> intro _) | fail)
 exact ⟨_, _, rfl, kx.out, _, _, _, rfl, kp.out, ⟨_, _, _, rfl, kxr.out⟩, kw.out⟩
end
end Go.Proofs.YtmdakolcndpjeaaGreatDoor
end

section
namespace Go.Proofs.YtmdakolcndpjeaaGreatDoor
open Go.AE Go.Lex Go.Pol Go.Syn
section
variable {α : Type} {e : Int} {w : List UInt8} {item : List Tk → PR α}
theorem someP_end {f : Nat} {s : Ps} (hn : nxP w s = false) (hl : Lt f s) : (runP (someP w item f) e s).2 = s ∧ ∀ t, (runP (someP w item f) e s).1 = some t → t = [] := by
 cases s with
 | bad a => exact ⟨rfl, fun t ht => by cases ht⟩
 | good r =>
  have hf := hl r rfl
  obtain ⟨f', rfl⟩ : ∃ f', f = f' + 1 := ⟨f - 1, by omega⟩
  have : someP w item (f' + 1) r = .ok [] r := by
   unfold someP
   rw [if_neg (by rw [show isT w r = false from hn]; decide)]
  rw [runP_ok this]
  exact ⟨rfl, fun t ht => by injection ht with ht; exact ht.symm⟩
theorem someP_next (hi : ∀ r x q, item r = .ok x q → q.length < r.length) {f : Nat} {s : Ps} (hn : nxP w s = true) (hl : Lt f s) {x : α} (hx : ∀ y, (runP item e s).1 = some y → x = y) :
 sizeS (runP item e s).2 < sizeS s ∧ ∃ f', Lt f' (runP item e s).2 ∧ (runP (someP w item f) e s).2 = (runP (someP w item f') e (runP item e s).2).2 ∧
  ∀ t, (runP (someP w item f) e s).1 = some t → ∃ t', (runP (someP w item f') e (runP item e s).2).1 = some t' ∧ t = x :: t' := by
 cases s with
 | bad a => cases hn
 | good r =>
  have hf := hl r rfl
  have hi' : isT w r = true := hn
  obtain ⟨f', rfl⟩ : ∃ f', f = f' + 1 := ⟨f - 1, by omega⟩
  have hl1 : Lt (r.length + 1) (.good r) := fun q hq => by injection hq with hq; subst hq; exact Nat.lt_succ_self _
  refine ⟨?_, f', ?_, ?_⟩
  ·have := sizeS_le (hl1.step1 (e := e) hi)
   exact Nat.lt_of_le_of_lt this (Nat.lt_succ_self _)
  ·exact hl.step1 (e := e) hi
  ·have he : someP w item (f' + 1) r = (item r).bind fun x r => (someP w item f' r).bind fun t r => .ok (x :: t) r := by
    conv => lhs; unfold someP
    rw [if_pos hi']
   have h2 : runP (someP w item (f' + 1)) e (.good r) = runP (fun r => (someP w item f' r).bind fun t r => .ok (x :: t) r) e (runP item e (.good r)).2 := by
    rw [runP_at (Q := fun r => (item r).bind fun x r => (someP w item f' r).bind fun t r => .ok (x :: t) r) he, runP_step hx]
   rw [h2]
   generalize (runP item e (.good r)).2 = s2
   rw [runP_bind]
   cases hq : (runP (someP w item f') e s2).1 with
   | none => exact ⟨rfl, fun t ht => by cases ht⟩
   | some t' =>
    obtain ⟨w1, w2⟩ := runP_last (e := e) (x :: t') (runP (someP w item f') e s2).2
    exact ⟨w1, fun t ht => ⟨t', rfl, (w2 t ht).symm⟩⟩
structure Some0 (e : Int) (w : List UInt8) (item : List Tk → PR α) (f0 : Nat) (s0 : Ps) (xs : List α) (s : Ps) : Prop where
 go : ∃ f, Lt f s ∧ (runP (someP w item f0) e s0).2 = (runP (someP w item f) e s).2 ∧ ∀ y, (runP (someP w item f0) e s0).1 = some y → ∃ t, (runP (someP w item f) e s).1 = some t ∧ y = xs ++ t
theorem Some0.start {f0 : Nat} {s : Ps} (h : Lt f0 s) : Some0 e w item f0 s [] s := ⟨f0, h, rfl, fun y hy => ⟨y, hy, rfl⟩⟩
theorem Some0.next (hi : ∀ r x q, item r = .ok x q → q.length < r.length) {f0 : Nat} {s0 s : Ps} {xs : List α} (G : Some0 e w item f0 s0 xs s) (hn : nxP w s = true) {x : α} (hx : ∀ y, (runP item e s).1 = some y → x = y) :
 sizeS (runP item e s).2 < sizeS s ∧ Some0 e w item f0 s0 (xs ++ [x]) (runP item e s).2 := by
 obtain ⟨f, h1, h2, h3⟩ := G.go
 obtain ⟨k1, f', k2, k3, k4⟩ := someP_next hi hn h1 hx
 refine ⟨k1, f', k2, h2.trans k3, fun y hy => ?_⟩
 obtain ⟨t, ht, hy2⟩ := h3 y hy
 obtain ⟨t', ht', rfl⟩ := k4 t ht
 exact ⟨t', ht', by rw [hy2, List.append_assoc]; rfl⟩
theorem Some0.done {f0 : Nat} {s0 s : Ps} {xs : List α} (G : Some0 e w item f0 s0 xs s) (hn : nxP w s = false) : (runP (someP w item f0) e s0).2 = s ∧ ∀ y, (runP (someP w item f0) e s0).1 = some y → xs = y := by
 obtain ⟨f, h1, h2, h3⟩ := G.go
 obtain ⟨k1, k2⟩ := someP_end (e := e) (item := item) hn h1
 refine ⟨h2.trans k1, fun y hy => ?_⟩
 obtain ⟨t, ht, hy2⟩ := h3 y hy
 obtain rfl := k2 t ht
 rw [hy2, List.append_nil]
end
def encSB (l : List (List UInt8)) (v : AV) : Prop := encSs l v ∧ l.length ≤ 1000000001
theorem rs95 : Tryz.f95.results.toList = [.tmp 4, .cell 5 70] := by kernel_rfl
section
variable {tok : Tok} {sz : Nat} {l : List Tk} {e : Int}
theorem rfDeclared (D : Rd0 tok sz l) (hv : Valid l) {s : Ps} {row : List AV} (hr : PsRow tok sz l e s row) (x : List UInt8) (hx : x.length ≠ 1) (f : Nat) (hf : Lt f s) (h : Heap) (ho : okHeap h = true) : Steps1 encSB 95 [.agg row, .v (.string (bs x))] tok sz l e h (runP (someP x (declP x) f) e s) := by
 have a70 := ag70; have s70 := sz70; have z70 := zc70; have a4 := ag4'; have a9 := ag9; have s9 := sz9; have a22 := ag22
 have hbd : sizeS s ≤ 1000000001 := by
  cases s with
  | bad a => exact Nat.zero_le _
  | good r =>
   obtain ⟨n, hn, hrn, -⟩ := hr
   have := D.few
   simp only [sizeS]
   rw [hrn, List.length_drop]; omega
 obtain ⟨n0, b0, a0, rfl⟩ := hr.some_row
 have kr := Keep.mk hr
 have kG0 : Keep (Some0 e x (declP x) f s [] s) := Keep.mk (.start hf)
 have kX0 := Keep.mk ((Ext.push h (pst tok sz l n0 e b0 a0)).trans (.push _ (pst .nil 0 [] 0 0 false 0)))
 have ko := Keep.mk ho
 have u1 : ((h.push (pst tok sz l n0 e b0 a0)).push (pst .nil 0 [] 0 0 false 0)).boxes[h.boxes.length + 1]? = some (pst .nil 0 [] 0 0 false 0) := by have := push_last (h.push (pst tok sz l n0 e b0 a0)) (pst .nil 0 [] 0 0 false 0); rw [push_len] at this; exact this
 clear hr hf ho
 unfold Steps1
 refine call_post rfl Tryz.func95 rfl ?_
 repeat' (first | simp (config := { maxSteps := 4000000 }) (disch := first | exact dZ | fail) only [goS, plainEv, resultsEv, resultListEv, reduceIte, Nat.reduceEqDiff, goT, beq_self_eq_true, goH, goU, rs95, pss, ld70, st70, push_len, *] | (refine dX ?_ ?_ <;> (intro _; try (exfalso; omega))) | (refine dY ?_ ?_ <;> intro _) | fail)
 refine run_loop (fun k v h' => ∃ (st : Ps) (n : Int) (b : Bool) (a : Int) (xs : List (List UInt8)) (tokL : Tok) (szL : Nat), k = sizeS st ∧ v.get 1 = .v (.string (bs x)) ∧ v.get 2 = .ptr (.box h.boxes.length) 0 ∧ v.get 5 = .ptr (.box (h.boxes.length + 1)) 0 ∧ v.get 6 = .list tokL szL (strs xs) ∧ v.defers = [] ∧
  PsRow tok sz l e st (pst tok sz l n e b a) ∧ (szL = 1 ∨ (xs = [] ∧ tokL = .nil)) ∧ xs.length + sizeS st ≤ 1000000001 ∧ Some0 e x (declP x) f s xs st ∧ CanApp h.tn h' tokL ∧ Ext h h' ∧ okHeap h' = true ∧ h'.boxes[h.boxes.length]? = some (pst tok sz l n e b a) ∧ h'.boxes[h.boxes.length + 1]? = some (pst .nil 0 [] 0 0 false 0)) ?_ (sizeS s) _ _ ?_
 ·rintro k v h' ⟨st, n, b, a, xs, tokL, szL, rfl, g1, g2, g5, g6, hd, hp, hsz, hbnd, hG, hca, hxt, hok, q1, q2⟩
  obtain ⟨hA, cA, xA⟩ := rfNext D hv hp 1 x (kind_word hx) h'
  have kca := Keep.mk hca
  have kG := Keep.mk hG
  have ksz := Keep.mk hsz
  cases hn : nxP x st with
  | false =>
   rw [hn] at cA
   obtain ⟨w1, w2⟩ := kG.out.done hn
   have t1 := xA.box _ _ q1
   have t2 := xA.box _ _ q2
   have mB1 := (List.getElem?_eq_some_iff.1 t2).1
   have y2 : (hA.put (h.boxes.length + 1) (pst tok sz l n e b a)).boxes[h.boxes.length + 1]? = some (pst tok sz l n e b a) := put_this mB1
   have kx := Keep.mk ((hxt.trans xA).put_new (b := h.boxes.length + 1) (by omega) (pst tok sz l n e b a))
   have kw1 := Keep.mk w1
   have kw2 := Keep.mk w2
   have kpB := Keep.mk hp
   clear hp hsz hG hca hxt hok xA w1 w2 hn
   repeat' (first | simp (config := { maxSteps := 4000000 }) (disch := first | exact dZ | fail) only [goS, plainEv, resultsEv, resultListEv, reduceIte, Nat.reduceEqDiff, goT, beq_self_eq_true, goH, goU, rs95, pss, ld70, st70, put_push_eq, put_push_ne, push_len, *] | (refine dX ?_ ?_ <;> (intro _; try (exfalso; omega))) | (refine dY ?_ ?_ <;> intro _) | fail)
   refine run_draw (by kernel_rfl) ?_
   repeat' (first | simp (config := { maxSteps := 4000000 }) (disch := first | exact dZ | fail) only [goS, plainEv, resultsEv, resultListEv, reduceIte, Nat.reduceEqDiff, goT, beq_self_eq_true, goH, goU, rs95, pss, ld70, st70, put_push_eq, put_push_ne, push_len, *] | (refine dX ?_ ?_ <;> (intro _; try (exfalso; omega))) | (refine dY ?_ ?_ <;> intro _) | fail)
   refine ⟨_, _, rfl, kx.out, _, _, _, rfl, kw1.out.symm ▸ kpB.out, ⟨⟨_, _, rfl, fun i hi => ?_⟩, by omega⟩, kw2.out⟩
   rcases ksz.out with q | ⟨q, -⟩
   ·exact q
   ·rw [q] at hi; simp at hi
  | true =>
   rw [hn] at cA
   have hsz2 := sizeS_nx hn
   obtain ⟨rB, hB, cB, xB, rowB, rfl, pB⟩ := rfWord D hv hp x hx hA
   obtain ⟨rC, hC, cC, xC, vC, rowC, xc, rfl, pC, rfl, qC⟩ := rfName D pB hB
   obtain ⟨kB, bbB, aB, rfl⟩ := pB.some_row
   obtain ⟨kC, bbC, aC, rfl⟩ := pC.some_row
   have X1 := ((xA.trans xB).trans xC).trans (.push _ (pst tok sz l kC e bbC aC))
   have ca2 := kca.out.ext X1
   have happ := app_strs2 (k' := .tight) (x := xc) (ca2.mono (Nat.zero_le _)) ksz.out (by omega)
   have X2 : Ext h ((hC.push (pst tok sz l kC e bbC aC)).app tokL) := (hxt.trans X1).app ca2
   obtain ⟨rD, hD, cD, xD, rowD, rfl, pD⟩ := rfSign D hv pC cSemi (by decide) ((hC.push (pst tok sz l kC e bbC aC)).app tokL)
   obtain ⟨kD, bbD, aD, rfl⟩ := pD.some_row
   have hitem : runP (declP x) e st = runP (fun r => PR.ok xc r) e (runP (wantT cSemi) e (runP nameP e (runP (wantT x) e st).2).2).2 := by
    show runP (fun r => (wantT x r).bind fun _ r => (nameP r).bind fun y r => (wantT cSemi r).bind fun _ r => .ok y r) e st = _
    rw [runP_step (x := ()) (fun y _ => rfl), runP_step qC, runP_step (x := ()) (fun y _ => rfl)]
   obtain ⟨z1, z2⟩ := runP_last (e := e) xc (runP (wantT cSemi) e (runP nameP e (runP (wantT x) e st).2).2).2
   obtain ⟨hless, hG2⟩ := kG.out.next (fun r y q hq => decl_less hq) hn (x := xc) (by rw [hitem]; exact z2)
   rw [hitem, z1] at hless hG2
   have t1 := X1.box _ _ q1
   have t2 := X1.box _ _ q2
   have m1 := (List.getElem?_eq_some_iff.1 q1).1
   have m2 := (List.getElem?_eq_some_iff.1 q2).1
   have t4 := xA.box _ _ q1
   have t5 : ((hC.push (pst tok sz l kC e bbC aC)).app tokL).boxes[hC.boxes.length]? = some (pst tok sz l kC e bbC aC) := by rw [app_boxes]; exact push_last _ _
   have t6 : hD.boxes[h.boxes.length]? = some (pst tok sz l n e b a) := xD.box _ _ (by rw [app_boxes]; exact t1)
   have t7 : hD.boxes[h.boxes.length + 1]? = some (pst .nil 0 [] 0 0 false 0) := xD.box _ _ (by rw [app_boxes]; exact t2)
   have m6 := (List.getElem?_eq_some_iff.1 t6).1
   have bwx := bw1 xc
   have kX2 := Keep.mk (X2.trans xD)
   have kok2 := Keep.mk (X1.ok hok)
   have kca3 := Keep.mk ((ca2.next (X1.ok hok) (hxt.trans X1).tn).ext xD)
   have kG2 := Keep.mk hG2
   have kpD := Keep.mk pD
   have kless := Keep.mk hless
   simp only [cSemi] at cD
   clear hp hsz hG hca hxt hok xA xB xC xD pB pC pD qC X1 X2 ca2 hG2 hn hitem z1 z2 hless
   repeat' (first | simp (config := { maxSteps := 4000000 }) (disch := first | exact dZ | fail) only [goS, plainEv, resultsEv, resultListEv, reduceIte, Nat.reduceEqDiff, goT, beq_self_eq_true, goH, goU, rs95, pss, ld70, st70, put_push_eq, put_push_ne, push_len, *] | (refine dX ?_ ?_ <;> (intro _; try (exfalso; omega))) | (refine dY ?_ ?_ <;> intro _) | fail)
   refine ⟨_, kless.out, _, kD, bbD, aD, xs ++ [xc], .free _, 1, rfl, (by first | trivial | (simp; done) | (simp; omega)), (by first | trivial | (simp; done) | (simp; omega)), (by first | trivial | (simp; done) | (simp; omega)), rfl, (by first | trivial | (simp; done) | (simp; omega)), kpD.out, .inl rfl, ?_, kG2.out, ?_, ?_, ?_, ?_, ?_⟩
   ·have := kless.out
    rw [List.length_append]
    simp only [List.length_cons, List.length_nil]
    omega
   ·exact kca3.out
   ·exact kX2.out.put_new (Nat.le_refl _) _
   ·exact kX2.out.ok ko.out
   ·exact put_this (by omega)
   ·rw [put_other (by omega)]; exact t7
 ·refine ⟨s, n0, b0, a0, [], .nil, 0, rfl, ?_, ?_, ?_, ?_, ?_, kr.out, .inr ⟨rfl, rfl⟩, by simpa using hbd, kG0.out, .inl rfl, kX0.out, ko.out, push_old (push_last _ _), u1⟩ <;> simp only [goS, plainEv, resultsEv, resultListEv, reduceIte, Nat.reduceEqDiff, goT, beq_self_eq_true, goH] <;> rfl
end
end Go.Proofs.YtmdakolcndpjeaaGreatDoor
end

section
namespace Go.Proofs.YtmdakolcndpjeaaGreatDoor
open Go.AE Go.Lex Go.Pol Go.Syn
theorem bindA {α β γ : Type} (a : PR α) (f : α → List Tk → PR β) (g : β → List Tk → PR γ) : (a.bind f).bind g = a.bind fun x r => (f x r).bind g := by cases a <;> rfl
theorem polR_flat (m : Nat) (l : List Tk) : polR m l = (wantT kPolicy l).bind fun _ r => (nameP r).bind fun s r => (wantT cSemi r).bind fun _ r => (wantT kMode r).bind fun _ r => (modeR r).bind fun n r => (wantT cSemi r).bind fun _ r => (someP kOffice (declP kOffice) m r).bind fun o r => (someP kKind (declP kKind) m r).bind fun k r =>
 (someP kRule (ruleP m) m r).bind fun w r => (wantT kChange r).bind fun _ r => (wantT cEq r).bind fun _ r => (exprP m r).bind fun x r => (wantT cSemi r).bind fun _ r => .ok (⟨s, k, o, w, x, n⟩ : Po) r := by
 simp only [polR, headR, restP, wantP, bindA, bind_ok]
def endS (e : Int) : Ps → Ps
 | .bad a => .bad a
 | .good r => if r = [] then .good [] else .bad (failAt e r)
theorem wholeR_run (m : Nat) (e : Int) (s : Ps) : (runP (wholeR m) e s).2 = endS e (runP (polR m) e s).2 ∧ ∀ y, (runP (wholeR m) e s).1 = some y → (runP (polR m) e s).1 = some y := by
 cases s with
 | bad a => exact ⟨rfl, fun y hy => hy⟩
 | good r =>
  cases hp : polR m r with
  | bad q =>
   have : wholeR m r = .bad q := by unfold wholeR; rw [hp]; rfl
   rw [runP_no this, runP_no hp]
   exact ⟨rfl, fun y hy => hy⟩
  | ok p q =>
   by_cases hq : q = []
   ·have : wholeR m r = .ok p q := by unfold wholeR; rw [hp, bind_ok, if_pos hq]
    rw [runP_ok this, runP_ok hp]
    subst hq
    exact ⟨rfl, fun y hy => hy⟩
   ·have : wholeR m r = .bad q := by unfold wholeR; rw [hp, bind_ok, if_neg hq]
    rw [runP_no this, runP_ok hp]
    refine ⟨?_, fun y hy => by cases hy⟩
    simp [endS, hq]
theorem modeR_le : ∀ r u q, modeR r = .ok u q → q.length ≤ r.length := fun r u q h => by
 have ht : r.tail.length ≤ r.length := by rw [List.length_tail]; omega
 unfold modeR at h
 split at h
 ·injection h with _ h; rw [← h]; exact ht
 ·split at h
  ·injection h with _ h; rw [← h]; exact ht
  ·split at h
   ·injection h with _ h; rw [← h]; exact ht
   ·obtain ⟨u', a, e, h⟩ := bind_inv h
    injection h with _ h
    subst h
    exact Nat.le_of_lt (want_lt kEither r u' a e)
theorem someP_le {α : Type} {w : List UInt8} {item : List Tk → PR α} (hi : ∀ r x q, item r = .ok x q → q.length < r.length) : ∀ {m : Nat} (r u q), someP w item m r = .ok u q → q.length ≤ r.length := by
 intro m
 induction m with
 | zero => intro r u q h; cases h
 | succ m ih =>
  intro r u q h
  unfold someP at h
  split at h
  ·obtain ⟨x, a, e1, h⟩ := bind_inv h
   obtain ⟨t, b, e2, h⟩ := bind_inv h
   injection h with _ h
   subst h
   have := hi r x a e1
   have := ih a t b e2
   omega
  ·injection h with _ h
   subst h
   exact Nat.le_refl _
def encP (p : Po) (v : AV) : Prop := ∃ t, v = .agg (prow p t) ∧ POk p t
theorem bz28r : buildEv Tryz.prog 28 [] = some (.agg (prow ⟨[], [], [], [], .mk 0 0 0 [] [], 0⟩ ⟨.nil, 0, .nil, 0, .nil, 0, [], .nil, 0, []⟩)) := by kernel_rfl
theorem rs34 : Tryz.f34.results.toList = [.cell 2 28, .cell 3 70] := by kernel_rfl
section
variable {h : Heap} {c : Nat} {nm nm' : List UInt8} {ks os ks' os' : List (List UInt8)} {rs : List Rl} {ch x : Ex} {md md' : Int} {tk to tr tok tk' : Tok} {sk so sr sz sk' : Nat} {rr rows rr' : List (List AV)}
theorem s28_0 (hb : h.boxes[c]? = some (prow ⟨nm, ks, os, rs, ch, md⟩ ⟨tk, sk, to, so, tr, sr, rr, tok, sz, rows⟩)) : storeEv Tryz.prog h 9 (.ptr (.box c) 0) (.v (.string (bs nm'))) = some (h.put c (prow ⟨nm', ks, os, rs, ch, md⟩ ⟨tk, sk, to, so, tr, sr, rr, tok, sz, rows⟩)) := store_box (off := 0) (cs := prow ⟨nm, ks, os, rs, ch, md⟩ ⟨tk, sk, to, so, tr, sr, rr, tok, sz, rows⟩) (xs := [.v (.string (bs nm'))]) rfl sz9 hb rfl (show 0 + 1 ≤ 10 by omega)
theorem s28_9 (hb : h.boxes[c]? = some (prow ⟨nm, ks, os, rs, ch, md⟩ ⟨tk, sk, to, so, tr, sr, rr, tok, sz, rows⟩)) : storeEv Tryz.prog h 3 (.ptr (.box c) 9) (.v (.int .i64 md')) = some (h.put c (prow ⟨nm, ks, os, rs, ch, md'⟩ ⟨tk, sk, to, so, tr, sr, rr, tok, sz, rows⟩)) := store_box (off := 9) (cs := prow ⟨nm, ks, os, rs, ch, md⟩ ⟨tk, sk, to, so, tr, sr, rr, tok, sz, rows⟩) (xs := [.v (.int .i64 md')]) rfl sz3 hb rfl (show 9 + 1 ≤ 10 by omega)
theorem s28_2 (hb : h.boxes[c]? = some (prow ⟨nm, ks, os, rs, ch, md⟩ ⟨tk, sk, to, so, tr, sr, rr, tok, sz, rows⟩)) : storeEv Tryz.prog h 22 (.ptr (.box c) 2) (.list tk' sk' (strs os')) = some (h.put c (prow ⟨nm, ks, os', rs, ch, md⟩ ⟨tk, sk, tk', sk', tr, sr, rr, tok, sz, rows⟩)) := store_box (off := 2) (cs := prow ⟨nm, ks, os, rs, ch, md⟩ ⟨tk, sk, to, so, tr, sr, rr, tok, sz, rows⟩) (xs := [.list tk' sk' (strs os')]) rfl sz22 hb rfl (show 2 + 1 ≤ 10 by omega)
theorem s28_1 (hb : h.boxes[c]? = some (prow ⟨nm, ks, os, rs, ch, md⟩ ⟨tk, sk, to, so, tr, sr, rr, tok, sz, rows⟩)) : storeEv Tryz.prog h 22 (.ptr (.box c) 1) (.list tk' sk' (strs ks')) = some (h.put c (prow ⟨nm, ks', os, rs, ch, md⟩ ⟨tk', sk', to, so, tr, sr, rr, tok, sz, rows⟩)) := store_box (off := 1) (cs := prow ⟨nm, ks, os, rs, ch, md⟩ ⟨tk, sk, to, so, tr, sr, rr, tok, sz, rows⟩) (xs := [.list tk' sk' (strs ks')]) rfl sz22 hb rfl (show 1 + 1 ≤ 10 by omega)
theorem s28_3 (hb : h.boxes[c]? = some (prow ⟨nm, ks, os, rs, ch, md⟩ ⟨tk, sk, to, so, tr, sr, rr, tok, sz, rows⟩)) : storeEv Tryz.prog h 23 (.ptr (.box c) 3) (.list tk' sk' rr') = some (h.put c (prow ⟨nm, ks, os, rs, ch, md⟩ ⟨tk, sk, to, so, tk', sk', rr', tok, sz, rows⟩)) := store_box (off := 3) (cs := prow ⟨nm, ks, os, rs, ch, md⟩ ⟨tk, sk, to, so, tr, sr, rr, tok, sz, rows⟩) (xs := [.list tk' sk' rr']) rfl sz23 hb rfl (show 3 + 1 ≤ 10 by omega)
theorem s28_4 (hb : h.boxes[c]? = some (prow ⟨nm, ks, os, rs, ch, md⟩ ⟨tk, sk, to, so, tr, sr, rr, tok, sz, rows⟩)) : storeEv Tryz.prog h 26 (.ptr (.box c) 4) (.agg (row5 x.kind x.n x.no x.name tk' sk' rr')) = some (h.put c (prow ⟨nm, ks, os, rs, x, md⟩ ⟨tk, sk, to, so, tr, sr, rr, tk', sk', rr'⟩)) := store_box (off := 4) (cs := prow ⟨nm, ks, os, rs, ch, md⟩ ⟨tk, sk, to, so, tr, sr, rr, tok, sz, rows⟩) (xs := row5 x.kind x.n x.no x.name tk' sk' rr') rfl sz26 hb rfl (show 4 + 5 ≤ 10 by omega)
theorem l28_3 (p : Po) (t : PT) : ((prow p t).drop 3).head? = some (.list t.tr t.sr t.rr) := rfl
end
theorem Four.two (h : Heap) (b : Nat) {r0 r1 r2 r3 : List AV} (F : Four h b r0 r1 r2 r3) (u1 u2 : List AV) : ((h.put (b + 1) u1).put (b + 1 + 1) u2).boxes[b + 1]? = some u1 ∧ ((h.put (b + 1) u1).put (b + 1 + 1) u2).boxes[b + 1 + 1]? = some u2 := by
 have := F.len
 exact ⟨by rw [put_other (by omega)]; exact put_this (by omega), put_this (by rw [put_len]; omega)⟩
theorem Four.app {h : Heap} {b : Nat} {r0 r1 r2 r3 : List AV} (F : Four h b r0 r1 r2 r3) (k : Tok) : Four (h.app k) b r0 r1 r2 r3 := ⟨by rw [app_boxes]; exact F.b0, by rw [app_boxes]; exact F.b1, by rw [app_boxes]; exact F.b2, by rw [app_boxes]; exact F.b3⟩
theorem end_fail {tok : Tok} {sz : Nat} {l : List Tk} {e k a : Int} {b : Bool} {s : Ps} (h : PsRow tok sz l e s (pst tok sz l k e b a)) : (k < (l.length : Int) → failS e s = endS e s) ∧ (¬ k < (l.length : Int) → endS e s = s) := by
 cases s with
 | bad a => exact ⟨fun _ => rfl, fun _ => rfl⟩
 | good r =>
  obtain ⟨n, hn, hr, he⟩ := h
  simp only [pst, List.cons.injEq, AV.v.injEq, Value.int.injEq, true_and, and_true] at he
  obtain ⟨rfl, -⟩ := he
  refine ⟨fun hlt => ?_, fun hlt => ?_⟩
  ·have : r ≠ [] := by rw [hr]; intro q; have := List.drop_eq_nil_iff.1 q; omega
   simp [endS, failS, this]
  ·have : r = [] := by rw [hr]; exact List.drop_eq_nil_of_le (by omega)
   simp [endS, this]
end Go.Proofs.YtmdakolcndpjeaaGreatDoor
end

section
namespace Go.Proofs.YtmdakolcndpjeaaGreatDoor
open Go.AE Go.Lex Go.Pol Go.Syn
section
variable {tok : Tok} {sz : Nat} {l : List Tk} {e : Int}
theorem rfRead {m : Nat} (D : Rd0 tok sz l) (hv : Valid l) {s : Ps} {row : List AV} (hr : PsRow tok sz l e s row) (hl : Lt m s) (h : Heap) (ho : okHeap h = true) : Steps1 encP 34 [.agg row] tok sz l e h (runP (wholeR m) e s) := by
 have a70 := ag70; have s70 := sz70; have z70 := zc70; have a4 := ag4'; have a26 := ag26; have s26 := sz26; have z26 := zc26; have a62 := ag62; have s62 := sz62; have z62 := zc62; have a9 := ag9; have a3 := ag3; have s3 := sz3; have a28 := ag28; have s28 := sz28; have a22 := ag22; have a23 := ag23; have u39 := Tryz.underlying39; have a39 := ag39
 have z28 : (zeroA Tryz.prog 28).bind AV.cellsO = some (prow ⟨[], [], [], [], .mk 0 0 0 [] [], 0⟩ ⟨.nil, 0, .nil, 0, .nil, 0, [], .nil, 0, []⟩) := zc28
 have F0 := Four.mk0 h row (prow ⟨[], [], [], [], .mk 0 0 0 [] [], 0⟩ ⟨.nil, 0, .nil, 0, .nil, 0, [], .nil, 0, []⟩) (pst .nil 0 [] 0 0 false 0) (prow ⟨[], [], [], [], .mk 0 0 0 [] [], 0⟩ ⟨.nil, 0, .nil, 0, .nil, 0, [], .nil, 0, []⟩)
 have X0 : Ext h ((((h.push row).push (prow ⟨[], [], [], [], .mk 0 0 0 [] [], 0⟩ ⟨.nil, 0, .nil, 0, .nil, 0, [], .nil, 0, []⟩)).push (pst .nil 0 [] 0 0 false 0)).push (prow ⟨[], [], [], [], .mk 0 0 0 [] [], 0⟩ ⟨.nil, 0, .nil, 0, .nil, 0, [], .nil, 0, []⟩)) := (((Ext.push h row).trans (.push _ _)).trans (.push _ _)).trans (.push _ _)
 obtain ⟨r1, h1, c1, x1, row1, rfl, p1⟩ := rfWord D hv hr kPolicy (by decide) ((((h.push row).push (prow ⟨[], [], [], [], .mk 0 0 0 [] [], 0⟩ ⟨.nil, 0, .nil, 0, .nil, 0, [], .nil, 0, []⟩)).push (pst .nil 0 [] 0 0 false 0)).push (prow ⟨[], [], [], [], .mk 0 0 0 [] [], 0⟩ ⟨.nil, 0, .nil, 0, .nil, 0, [], .nil, 0, []⟩))
 have l1 := hl.step (e := e) fun r u q w => Nat.le_of_lt (want_lt kPolicy r u q w)
 obtain ⟨r2, h2, c2, x2, v2, row2, s2, rfl, p2, rfl, q2⟩ := rfName D p1 h1
 have l2 := l1.step (e := e) fun r u q w => Nat.le_of_lt (name_lt r u q w)
 have F1 := (F0.ext (x1.trans x2)).put row2 (prow ⟨s2, [], [], [], .mk 0 0 0 [] [], 0⟩ ⟨.nil, 0, .nil, 0, .nil, 0, [], .nil, 0, []⟩)
 have X1 := ((X0.trans x1).trans x2).put_two (Nat.le_refl _) row2 (prow ⟨s2, [], [], [], .mk 0 0 0 [] [], 0⟩ ⟨.nil, 0, .nil, 0, .nil, 0, [], .nil, 0, []⟩)
 obtain ⟨r3, h3, c3, x3, row3, rfl, p3⟩ := rfSign D hv p2 cSemi (by decide) ((h2.put (h.boxes.length + 1 + 1 + 1) (prow ⟨s2, [], [], [], .mk 0 0 0 [] [], 0⟩ ⟨.nil, 0, .nil, 0, .nil, 0, [], .nil, 0, []⟩)).put h.boxes.length row2)
 have l3 := l2.step (e := e) fun r u q w => Nat.le_of_lt (want_lt cSemi r u q w)
 obtain ⟨r4, h4, c4, x4, row4, rfl, p4⟩ := rfWord D hv p3 kMode (by decide) h3
 have l4 := l3.step (e := e) fun r u q w => Nat.le_of_lt (want_lt kMode r u q w)
 obtain ⟨r5', h5, c5, x5, v5, row5', n5, rfl, p5', rfl, q5⟩ := rfMode D hv p4 h4
 have l5 := l4.step (e := e) (P := modeR) modeR_le
 have F2 := (F1.ext ((x3.trans x4).trans x5)).put row5' (prow ⟨s2, [], [], [], .mk 0 0 0 [] [], n5⟩ ⟨.nil, 0, .nil, 0, .nil, 0, [], .nil, 0, []⟩)
 have X2 := (((X1.trans x3).trans x4).trans x5).put_two (Nat.le_refl _) row5' (prow ⟨s2, [], [], [], .mk 0 0 0 [] [], n5⟩ ⟨.nil, 0, .nil, 0, .nil, 0, [], .nil, 0, []⟩)
 obtain ⟨r6, h6, c6, x6, row6, rfl, p6⟩ := rfSign D hv p5' cSemi (by decide) ((h5.put (h.boxes.length + 1 + 1 + 1) (prow ⟨s2, [], [], [], .mk 0 0 0 [] [], n5⟩ ⟨.nil, 0, .nil, 0, .nil, 0, [], .nil, 0, []⟩)).put h.boxes.length row5')
 have l6 := l5.step (e := e) fun r u q w => Nat.le_of_lt (want_lt cSemi r u q w)
 obtain ⟨r7, h7, c7, x7, v7, row7, o7, rfl, p7, ⟨⟨to, so, rfl, zo⟩, bo⟩, q7⟩ := rfDeclared D hv p6 kOffice (by decide) m l6 h6 ((X2.trans x6).ok ho)
 have l7 := l6.step (e := e) (P := someP kOffice (declP kOffice) m) (someP_le fun r x q hq => decl_less hq)
 have F3 := (F2.ext (x6.trans x7)).put row7 (prow ⟨s2, [], o7, [], .mk 0 0 0 [] [], n5⟩ ⟨.nil, 0, to, so, .nil, 0, [], .nil, 0, []⟩)
 have X3 := ((X2.trans x6).trans x7).put_two (Nat.le_refl _) row7 (prow ⟨s2, [], o7, [], .mk 0 0 0 [] [], n5⟩ ⟨.nil, 0, to, so, .nil, 0, [], .nil, 0, []⟩)
 obtain ⟨r8, h8, c8, x8, v8, row8, k8, rfl, p8, ⟨⟨tk, sk, rfl, zk⟩, bk⟩, q8⟩ := rfDeclared D hv p7 kKind (by decide) m l7 ((h7.put (h.boxes.length + 1 + 1 + 1) (prow ⟨s2, [], o7, [], .mk 0 0 0 [] [], n5⟩ ⟨.nil, 0, to, so, .nil, 0, [], .nil, 0, []⟩)).put h.boxes.length row7) (X3.ok ho)
 have l8 := l7.step (e := e) (P := someP kKind (declP kKind) m) (someP_le fun r x q hq => decl_less hq)
 have F4 := (F3.ext x8).put row8 (prow ⟨s2, k8, o7, [], .mk 0 0 0 [] [], n5⟩ ⟨tk, sk, to, so, .nil, 0, [], .nil, 0, []⟩)
 have X4 := (X3.trans x8).put_two (Nat.le_refl _) row8 (prow ⟨s2, k8, o7, [], .mk 0 0 0 [] [], n5⟩ ⟨tk, sk, to, so, .nil, 0, [], .nil, 0, []⟩)
 obtain ⟨k0, bb0, a0, rfl⟩ := hr.some_row
 obtain ⟨k1, bb1, a1, rfl⟩ := p1.some_row
 obtain ⟨k2, bb2, a2, rfl⟩ := p2.some_row
 obtain ⟨k3, bb3, a3', rfl⟩ := p3.some_row
 obtain ⟨k4, bb4, a4', rfl⟩ := p4.some_row
 obtain ⟨k5, bb5, a5, rfl⟩ := p5'.some_row
 obtain ⟨k6, bb6, a6, rfl⟩ := p6.some_row
 obtain ⟨k7, bb7, a7, rfl⟩ := p7.some_row
 obtain ⟨kk8, bb8, a8, rfl⟩ := p8.some_row
 have hfin : runP (polR m) e s = runP (fun r => (someP kRule (ruleP m) m r).bind fun w r => (wantT kChange r).bind fun _ r => (wantT cEq r).bind fun _ r => (exprP m r).bind fun x r => (wantT cSemi r).bind fun _ r => .ok (⟨s2, k8, o7, w, x, n5⟩ : Po) r) e
  (runP (someP kKind (declP kKind) m) e (runP (someP kOffice (declP kOffice) m) e (runP (wantT cSemi) e (runP modeR e (runP (wantT kMode) e (runP (wantT cSemi) e (runP nameP e (runP (wantT kPolicy) e s).2).2).2).2).2).2).2).2 := by
  rw [show polR m = _ from funext (polR_flat m), runP_step (x := ()) (fun y _ => rfl), runP_step q2, runP_step (x := ()) (fun y _ => rfl), runP_step (x := ()) (fun y _ => rfl), runP_step q5, runP_step (x := ()) (fun y _ => rfl), runP_step q7, runP_step q8]
 obtain ⟨W1, W2⟩ := wholeR_run m e s
 rw [hfin] at W1 W2
 generalize (runP (someP kKind (declP kKind) m) e (runP (someP kOffice (declP kOffice) m) e (runP (wantT cSemi) e (runP modeR e (runP (wantT kMode) e (runP (wantT cSemi) e (runP nameP e (runP (wantT kPolicy) e s).2).2).2).2).2).2).2).2 = s8 at *
 have G1 := F0.ext (x1.trans x2)
 have G2 := F1.ext ((x3.trans x4).trans x5)
 have G3 := F2.ext (x6.trans x7)
 have G4 := F3.ext x8
 have f1 := G1.b3; have f2 := (G1.put3 (prow ⟨s2, [], [], [], .mk 0 0 0 [] [], 0⟩ ⟨.nil, 0, .nil, 0, .nil, 0, [], .nil, 0, []⟩)).b0; have f3 := F1.b0
 have g1 := G2.b3; have g2 := (G2.put3 (prow ⟨s2, [], [], [], .mk 0 0 0 [] [], n5⟩ ⟨.nil, 0, .nil, 0, .nil, 0, [], .nil, 0, []⟩)).b0; have g3 := F2.b0
 have i1 := G3.b3; have i2 := (G3.put3 (prow ⟨s2, [], o7, [], .mk 0 0 0 [] [], n5⟩ ⟨.nil, 0, to, so, .nil, 0, [], .nil, 0, []⟩)).b0; have i3 := F3.b0
 have j1 := G4.b3; have j2 := (G4.put3 (prow ⟨s2, k8, o7, [], .mk 0 0 0 [] [], n5⟩ ⟨tk, sk, to, so, .nil, 0, [], .nil, 0, []⟩)).b0; have j3 := F4.b0
 have kF4 := Keep.mk F4
 have kX4 := Keep.mk X4
 have kW1 := Keep.mk W1
 have kW2 := Keep.mk W2
 have kp8 := Keep.mk p8
 have kl8 := Keep.mk l8
 have kD := Keep.mk D
 have kv := Keep.mk hv
 have ko := Keep.mk ho
 have kzo := Keep.mk zo
 have kzk := Keep.mk zk
 have few := D.few
 have hs8 : sizeS s8 ≤ 1000000001 := by
  cases s8 with
  | bad a => exact Nat.zero_le _
  | good r =>
   obtain ⟨n, hn, hrn, -⟩ := p8
   simp only [sizeS]
   rw [hrn, List.length_drop]; omega
 clear D hv hr hl ho p1 p2 p3 p4 p5' p6 p7 p8 q2 q5 q7 q8 hfin W1 W2 l1 l2 l3 l4 l5 l6 l7 l8 x1 x2 x3 x4 x5 x6 x7 x8 X0 X1 X2 X3 X4 F0 F1 F2 F3 F4 G1 G2 G3 G4 zo zk few
 simp only [kPolicy, kMode] at c1 c4
 simp only [cSemi] at c3 c6
 simp only [kOffice] at c7
 simp only [kKind] at c8
 unfold Steps1
 refine call_post rfl Tryz.func34 rfl ?_
 repeat' (first | simp (config := { maxSteps := 4000000 }) (disch := first | exact dZ | fail) only [goS, plainEv, resultsEv, resultListEv, reduceIte, Nat.reduceEqDiff, goT, beq_self_eq_true, goH, goU, rs34, pss, ld70, st70, bz28r, fp28, store28, s28_0, s28_9, s28_2, s28_1, put_push_eq, put_push_ne, push_len, *] | (refine dX ?_ ?_ <;> (intro _; try (exfalso; omega))) | (refine dY ?_ ?_ <;> intro _) | fail)
 refine run_loop (fun k v h' => ∃ (st : Ps) (n : Int) (b : Bool) (a : Int) (xs : List Rl) (rowsL : List (List AV)) (tokL : Tok) (szL : Nat), k = sizeS st ∧ v.get 1 = .ptr (.box h.boxes.length) 0 ∧ v.get 2 = .ptr (.box (h.boxes.length + 1)) 0 ∧ v.get 3 = .ptr (.box (h.boxes.length + 1 + 1)) 0 ∧ v.get 4 = .ptr (.box (h.boxes.length + 1 + 1 + 1)) 0 ∧ v.defers = [] ∧
  PsRow tok sz l e st (pst tok sz l n e b a) ∧ RRows xs rowsL ∧ (szL = 8 ∨ (rowsL = [] ∧ tokL = .nil)) ∧ xs.length + sizeS st ≤ 1000000001 ∧ Some0 e kRule (ruleP m) m s8 xs st ∧ Lt m st ∧ CanApp h.tn h' tokL ∧ Ext h h' ∧ okHeap h' = true ∧ Four h' h.boxes.length (pst tok sz l n e b a) (prow ⟨[], [], [], [], .mk 0 0 0 [] [], 0⟩ ⟨.nil, 0, .nil, 0, .nil, 0, [], .nil, 0, []⟩) (pst .nil 0 [] 0 0 false 0) (prow ⟨s2, k8, o7, [], .mk 0 0 0 [] [], n5⟩ ⟨tk, sk, to, so, tokL, szL, rowsL, .nil, 0, []⟩)) ?_ (sizeS s8) _ _ ?_
 ·rintro k v h' ⟨st, n, b, a, xs, rowsL, tokL, szL, rfl, g1, g2, g3, g4, hd, hp, hrw, hsz, hbnd, hG, hlt, hca, hxt, hok, hF⟩
  obtain ⟨hA, cA, xA⟩ := rfNext kD.out kv.out hp 1 kRule (kind_word (by decide)) h'
  have eh := hF.b0
  have kca := Keep.mk hca
  have kG := Keep.mk hG
  have ksz := Keep.mk hsz
  have krw := Keep.mk hrw
  have hlr := hrw.1
  cases hn : nxP kRule st with
  | false =>
   rw [hn] at cA
   obtain ⟨w1, w2⟩ := kG.out.done hn
   obtain ⟨rB, hB, cB, xB, rowB, rfl, pB⟩ := rfWord kD.out kv.out hp kChange (by decide) hA
   have lB := hlt.step (e := e) fun r u q w => Nat.le_of_lt (want_lt kChange r u q w)
   obtain ⟨rC, hC, cC, xC, rowC, rfl, pC⟩ := rfSign kD.out kv.out pB cEq (by decide) hB
   have lC := lB.step (e := e) fun r u q w => Nat.le_of_lt (want_lt cEq r u q w)
   obtain ⟨rD, hD, cD, xD, vD, rowD, xe, rfl, pD, ⟨re, rfl, hxe⟩, qD⟩ := rfWhole (rfExpr kD.out kv.out m) pC lC hC (((hxt.trans xA).trans xB).trans xC |>.ok ko.out)
   obtain ⟨tke, sze, rwe, rfl, -⟩ := Row.five hxe
   have FA := hF.ext (((xA.trans xB).trans xC).trans xD)
   have XA := (((hxt.trans xA).trans xB).trans xC).trans xD
   have FB := FA.put rowD (prow ⟨s2, k8, o7, [], xe, n5⟩ ⟨tk, sk, to, so, tokL, szL, rowsL, tke, sze, rwe⟩)
   have XB := XA.put_two (Nat.le_refl _) rowD (prow ⟨s2, k8, o7, [], xe, n5⟩ ⟨tk, sk, to, so, tokL, szL, rowsL, tke, sze, rwe⟩)
   obtain ⟨rE, hE, cE, xE, rowE, rfl, pE⟩ := rfSign kD.out kv.out pD cSemi (by decide) ((hD.put (h.boxes.length + 1 + 1 + 1) (prow ⟨s2, k8, o7, [], xe, n5⟩ ⟨tk, sk, to, so, tokL, szL, rowsL, tke, sze, rwe⟩)).put h.boxes.length rowD)
   have FC := FB.ext xE
   have FD := FC.put0 rowE
   have XD := (XB.trans xE).put_new (b := h.boxes.length) (Nat.le_refl _) rowE
   obtain ⟨rF, hF', cF, xF, rowF, rfl, pF⟩ := rfFail kD.out pE (hE.put h.boxes.length rowE)
   have FE := FD.ext xF
   obtain ⟨kB, bbB, aB, rfl⟩ := pB.some_row
   obtain ⟨kC, bbC, aC, rfl⟩ := pC.some_row
   obtain ⟨kD', bbD, aD, rfl⟩ := pD.some_row
   obtain ⟨kE, bbE, aE, rfl⟩ := pE.some_row
   obtain ⟨kF, bbF, aF, rfl⟩ := pF.some_row
   have hrest : runP (fun r => (someP kRule (ruleP m) m r).bind fun w r => (wantT kChange r).bind fun _ r => (wantT cEq r).bind fun _ r => (exprP m r).bind fun x r => (wantT cSemi r).bind fun _ r => .ok (⟨s2, k8, o7, w, x, n5⟩ : Po) r) e s8 = runP (fun r => PR.ok (⟨s2, k8, o7, xs, xe, n5⟩ : Po) r) e (runP (wantT cSemi) e (runP (exprP m) e (runP (wantT cEq) e (runP (wantT kChange) e st).2).2).2).2 := by
    rw [runP_step w2, w1, runP_step (x := ()) (fun y _ => rfl), runP_step (x := ()) (fun y _ => rfl), runP_step qD, runP_step (x := ()) (fun y _ => rfl)]
   obtain ⟨z1, z2⟩ := runP_last (e := e) (⟨s2, k8, o7, xs, xe, n5⟩ : Po) (runP (wantT cSemi) e (runP (exprP m) e (runP (wantT cEq) e (runP (wantT kChange) e st).2).2).2).2
   have V1 := kW1.out
   have V2 := kW2.out
   rw [hrest] at V1 V2
   rw [z1] at V1
   obtain ⟨y1, y2⟩ := end_fail pE
   generalize (runP (wantT cSemi) e (runP (exprP m) e (runP (wantT cEq) e (runP (wantT kChange) e st).2).2).2).2 = sE at *
   have hpok : POk ⟨s2, k8, o7, xs, xe, n5⟩ ⟨tk, sk, to, so, tokL, szL, rowsL, tke, sze, rwe⟩ := ⟨hrw, hxe, kzk.out, kzo.out, fun i hi => by
    rcases ksz.out with q | ⟨q, -⟩
    ·exact q
    ·exfalso
     have := hrw.1
     rw [q] at this
     simp at this
     simp only at hi
     omega, by simp only; omega, by simp only; omega, by simp only; omega⟩
   have hsame := pol_same hpok
   have hsame : sameAV (.agg (prow ⟨s2, k8, o7, [], xe, n5⟩ ⟨tk, sk, to, so, tokL, szL, rowsL, tke, sze, rwe⟩)) (.agg (prow ⟨s2, k8, o7, [], xe, n5⟩ ⟨tk, sk, to, so, tokL, szL, rowsL, tke, sze, rwe⟩)) = true := hsame
   have f1 := FA.b3; have f2 := (FA.put3 (prow ⟨s2, k8, o7, [], xe, n5⟩ ⟨tk, sk, to, so, tokL, szL, rowsL, tke, sze, rwe⟩)).b0; have f3 := FB.b0
   have g1' := FC.b0; have i1 := FD.b0; have i2 := FD.b1; have i3 := FD.b2; have i4 := FD.b3
   have j1 := FE.b0; have j2 := FE.b1; have j3 := FE.b2; have j4 := FE.b3
   have i3p : ((hE.put h.boxes.length (pst tok sz l kE e bbE aE)).put (h.boxes.length + 1) (prow ⟨s2, k8, o7, [], xe, n5⟩ ⟨tk, sk, to, so, tokL, szL, rowsL, tke, sze, rwe⟩)).boxes[h.boxes.length + 1 + 1]? = some (pst .nil 0 [] 0 0 false 0) := by rw [put_other (by omega)]; exact i3
   have i1p : ((hE.put h.boxes.length (pst tok sz l kE e bbE aE)).put (h.boxes.length + 1) (prow ⟨s2, k8, o7, [], xe, n5⟩ ⟨tk, sk, to, so, tokL, szL, rowsL, tke, sze, rwe⟩)).boxes[h.boxes.length]? = some (pst tok sz l kE e bbE aE) := by rw [put_other (by omega)]; exact i1
   have e0 := (hF.ext xA).b0
   obtain ⟨d1a, d1b⟩ := Four.two _ _ FD (prow ⟨s2, k8, o7, [], xe, n5⟩ ⟨tk, sk, to, so, tokL, szL, rowsL, tke, sze, rwe⟩) (pst tok sz l kE e bbE aE)
   obtain ⟨d2a, d2b⟩ := Four.two _ _ FE (prow ⟨s2, k8, o7, [], xe, n5⟩ ⟨tk, sk, to, so, tokL, szL, rowsL, tke, sze, rwe⟩) (pst tok sz l kF e bbF aF)
   have kx1 := Keep.mk ((XD.put_new (b := h.boxes.length + 1) (by omega) (prow ⟨s2, k8, o7, [], xe, n5⟩ ⟨tk, sk, to, so, tokL, szL, rowsL, tke, sze, rwe⟩)).put_new (b := h.boxes.length + 1 + 1) (by omega) (pst tok sz l kE e bbE aE))
   have kx2 := Keep.mk (((XD.trans xF).put_new (b := h.boxes.length + 1) (by omega) (prow ⟨s2, k8, o7, [], xe, n5⟩ ⟨tk, sk, to, so, tokL, szL, rowsL, tke, sze, rwe⟩)).put_new (b := h.boxes.length + 1 + 1) (by omega) (pst tok sz l kF e bbF aF))
   have kpE := Keep.mk pE
   have kpF := Keep.mk pF
   have kV1 := Keep.mk V1
   have kV2 := Keep.mk fun y hy => z2 y (V2 y hy)
   have kpok := Keep.mk hpok
   have ky1 := Keep.mk y1
   have ky2 := Keep.mk y2
   simp only [kRule] at cA
   simp only [kChange] at cB
   simp only [cEq] at cC
   simp only [cSemi] at cE
   clear hp hrw hsz hbnd hG hlt hca hxt hok hF xA xB xC xD xE xF w1 w2 lB lC pB pC pD pE pF hxe FA FB FC FD FE XA XB XD hrest qD z1 z2 V1 V2 y1 y2 hpok hn
   by_cases hend : kE < (l.length : Int)
   ·have hend3 : kE < ((toks l).length : Int) := by rw [toks_len]; exact hend
    repeat' (first | simp (config := { maxSteps := 4000000 }) (disch := first | exact dZ | fail) only [goS, plainEv, resultsEv, resultListEv, reduceIte, Nat.reduceEqDiff, goT, beq_self_eq_true, goH, goU, rs34, pss, ld70, st70, fp28, fp70, store28, s28_4, put_push_eq, put_push_ne, push_len, toks_len, *] | (refine dX ?_ ?_ <;> (intro _; try (exfalso; omega))) | (refine dY ?_ ?_ <;> intro _) | fail)
    refine run_draw_but [(0, 2)] (by kernel_rfl) ?_ ?_
    ·intro pr hp
     simp only [List.mem_singleton] at hp
     subst hp
     refine stable_before (x := .ptr (.box (h.boxes.length + 1 + 1 + 1)) 0) (v := .agg (prow ⟨s2, k8, o7, [], xe, n5⟩ ⟨tk, sk, to, so, tokL, szL, rowsL, tke, sze, rwe⟩)) (by kernel_rfl) rfl rfl rfl (by kernel_rfl) hsame ?_ ?_
     ·simp only [List.take_succ_cons, List.take_zero]
      repeat' (first | simp (config := { maxSteps := 4000000 }) (disch := first | exact dZ | fail) only [goS, plainEv, resultsEv, resultListEv, reduceIte, Nat.reduceEqDiff, goT, beq_self_eq_true, goH, goU, pss, load28, ld70, *] | (refine dX ?_ ?_ <;> (intro _; try (exfalso; omega))) | (refine dY ?_ ?_ <;> intro _) | fail)
      exact ⟨by trivial, by trivial, by trivial⟩
     ·simp only [List.take_succ_cons, List.take_zero]
      repeat' (first | simp (config := { maxSteps := 4000000 }) (disch := first | exact dZ | fail) only [goS, plainEv, resultsEv, resultListEv, reduceIte, Nat.reduceEqDiff, goT, beq_self_eq_true, goH, goU, pss, load28, ld70, *] | (refine dX ?_ ?_ <;> (intro _; try (exfalso; omega))) | (refine dY ?_ ?_ <;> intro _) | fail)
      exact ⟨by trivial, by trivial⟩
    repeat' (first | simp (config := { maxSteps := 4000000 }) (disch := first | exact dZ | fail) only [goS, plainEv, resultsEv, resultListEv, reduceIte, Nat.reduceEqDiff, goT, beq_self_eq_true, goH, goU, rs34, pss, ld70, st70, load28, fp28, fp70, store28, s28_4, put_push_eq, put_push_ne, push_len, *] | (refine dX ?_ ?_ <;> (intro _; try (exfalso; omega))) | (refine dY ?_ ?_ <;> intro _) | fail)
    exact ⟨_, _, rfl, kx2.out, _, _, ⟨s2, k8, o7, xs, xe, n5⟩, rfl, by rw [kV1.out, ← ky1.out hend]; exact kpF.out, ⟨⟨tk, sk, to, so, tokL, szL, rowsL, tke, sze, rwe⟩, rfl, kpok.out⟩, kV2.out⟩
   ·have hend3 : ¬ kE < ((toks l).length : Int) := by rw [toks_len]; exact hend
    repeat' (first | simp (config := { maxSteps := 4000000 }) (disch := first | exact dZ | fail) only [goS, plainEv, resultsEv, resultListEv, reduceIte, Nat.reduceEqDiff, goT, beq_self_eq_true, goH, goU, rs34, pss, ld70, st70, fp28, fp70, store28, s28_4, put_push_eq, put_push_ne, push_len, toks_len, *] | (refine dX ?_ ?_ <;> (intro _; try (exfalso; omega))) | (refine dY ?_ ?_ <;> intro _) | fail)
    refine run_draw_but [(1, 2)] (by kernel_rfl) ?_ ?_
    ·intro pr hp
     simp only [List.mem_singleton] at hp
     subst hp
     refine stable_before (x := .ptr (.box h.boxes.length) 0) (v := .agg (pst tok sz l kE e bbE aE)) (by kernel_rfl) rfl rfl rfl (by kernel_rfl) (same_pst _ _ _ _ _ _ _) ?_ ?_
     ·simp only [List.take_succ_cons, List.take_zero]
      repeat' (first | simp (config := { maxSteps := 4000000 }) (disch := first | exact dZ | fail) only [goS, plainEv, resultsEv, resultListEv, reduceIte, Nat.reduceEqDiff, goT, beq_self_eq_true, goH, goU, pss, load28, ld70, *] | (refine dX ?_ ?_ <;> (intro _; try (exfalso; omega))) | (refine dY ?_ ?_ <;> intro _) | fail)
      exact ⟨by trivial, by trivial, by trivial⟩
     ·simp only [List.take_succ_cons, List.take_zero]
      repeat' (first | simp (config := { maxSteps := 4000000 }) (disch := first | exact dZ | fail) only [goS, plainEv, resultsEv, resultListEv, reduceIte, Nat.reduceEqDiff, goT, beq_self_eq_true, goH, goU, pss, load28, store28, ld70, *] | (refine dX ?_ ?_ <;> (intro _; try (exfalso; omega))) | (refine dY ?_ ?_ <;> intro _) | fail)
      exact ⟨by trivial, by trivial⟩
    repeat' (first | simp (config := { maxSteps := 4000000 }) (disch := first | exact dZ | fail) only [goS, plainEv, resultsEv, resultListEv, reduceIte, Nat.reduceEqDiff, goT, beq_self_eq_true, goH, goU, rs34, pss, ld70, st70, load28, fp28, fp70, store28, s28_4, put_push_eq, put_push_ne, push_len, *] | (refine dX ?_ ?_ <;> (intro _; try (exfalso; omega))) | (refine dY ?_ ?_ <;> intro _) | fail)
    exact ⟨_, _, rfl, kx1.out, _, _, ⟨s2, k8, o7, xs, xe, n5⟩, rfl, by rw [kV1.out, ky2.out hend]; exact kpE.out, ⟨⟨tk, sk, to, so, tokL, szL, rowsL, tke, sze, rwe⟩, rfl, kpok.out⟩, kV2.out⟩
  | true =>
   rw [hn] at cA
   have hsz2 := sizeS_nx hn
   obtain ⟨rB, hB, cB, xB, vB, rowB, xr, rfl, pB, ⟨tkr, szr, rwr, rfl, hxr⟩, qB⟩ := rfRule kD.out kv.out hp hlt hA (xA.ok hok)
   obtain ⟨kB, bbB, aB, rfl⟩ := pB.some_row
   obtain ⟨hless, hG2⟩ := kG.out.next (fun r y q hq => rule_less hq) hn qB
   have hlt2 := hlt.step (e := e) (P := ruleP m) fun r u q w => Nat.le_of_lt (rule_less w)
   have X1 := ((xA.trans xB).trans (.push _ (rrow xr tkr szr rwr))).trans (.push _ (pst tok sz l kB e bbB aB))
   have ca2 := kca.out.ext X1
   have happ := app_rule2 (r := rrow xr tkr szr rwr) (ca2.mono (Nat.zero_le _)) ksz.out (by omega)
   have FA := hF.ext X1
   have FB := FA.app tokL
   have FC := FB.put3 (prow ⟨s2, k8, o7, [], .mk 0 0 0 [] [], n5⟩ ⟨tk, sk, to, so, (.free ((hB.push (rrow xr tkr szr rwr)).push (pst tok sz l kB e bbB aB)).tn), 8, (rowsL ++ [rrow xr tkr szr rwr]), .nil, 0, []⟩)
   have FD := FB.put (pst tok sz l kB e bbB aB) (prow ⟨s2, k8, o7, [], .mk 0 0 0 [] [], n5⟩ ⟨tk, sk, to, so, (.free ((hB.push (rrow xr tkr szr rwr)).push (pst tok sz l kB e bbB aB)).tn), 8, (rowsL ++ [rrow xr tkr szr rwr]), .nil, 0, []⟩)
   have XD := ((hxt.trans X1).app ca2).put_two (Nat.le_refl _) (pst tok sz l kB e bbB aB) (prow ⟨s2, k8, o7, [], .mk 0 0 0 [] [], n5⟩ ⟨tk, sk, to, so, (.free ((hB.push (rrow xr tkr szr rwr)).push (pst tok sz l kB e bbB aB)).tn), 8, (rowsL ++ [rrow xr tkr szr rwr]), .nil, 0, []⟩)
   have e0 := (hF.ext xA).b0
   have e1 := FA.b3; have e2 := FB.b3; have e3 := FC.b0
   have lA := FA.len
   rw [push_len, push_len] at lA
   have lA' := (hF.ext (xA.trans xB)).len
   have e4 : ((((hB.push (rrow xr tkr szr rwr)).push (pst tok sz l kB e bbB aB)).app tokL).put (h.boxes.length + 1 + 1 + 1) (prow ⟨s2, k8, o7, [], .mk 0 0 0 [] [], n5⟩ ⟨tk, sk, to, so, (.free ((hB.push (rrow xr tkr szr rwr)).push (pst tok sz l kB e bbB aB)).tn), 8, (rowsL ++ [rrow xr tkr szr rwr]), .nil, 0, []⟩)).boxes[hB.boxes.length + 1]? = some (pst tok sz l kB e bbB aB) := by
    rw [put_other (by omega), app_boxes]
    have := push_last (hB.push (rrow xr tkr szr rwr)) (pst tok sz l kB e bbB aB)
    rw [push_len] at this; exact this
   have kFD := Keep.mk FD
   have kXD := Keep.mk XD
   have kok2 := Keep.mk (X1.ok hok)
   have ktn := Keep.mk (hxt.trans X1).tn
   have kca2 := Keep.mk ca2
   have krw2 := Keep.mk (RRows.snoc krw.out (RRow.mk hxr))
   have kG2 := Keep.mk hG2
   have kl2 := Keep.mk hlt2
   have kpB := Keep.mk pB
   have kless := Keep.mk hless
   simp only [kRule] at cA
   clear hp hrw hsz hG hlt hca hxt hok hF xA xB pB hxr qB X1 ca2 FA FB FC FD XD hG2 hlt2 hless hn
   repeat' (first | simp (config := { maxSteps := 4000000 }) (disch := first | exact dZ | fail) only [goS, plainEv, resultsEv, resultListEv, reduceIte, Nat.reduceEqDiff, goT, beq_self_eq_true, goH, goU, rs34, pss, ld70, st70, ld62, st62, l28_3, build23, fp28, s28_3, put_push_eq, put_push_ne, push_len, *] | (refine dX ?_ ?_ <;> (intro _; try (exfalso; omega))) | (refine dY ?_ ?_ <;> intro _) | fail)
   refine ⟨_, kless.out, _, kB, bbB, aB, xs ++ [xr], rowsL ++ [rrow xr tkr szr rwr], .free ((hB.push (rrow xr tkr szr rwr)).push (pst tok sz l kB e bbB aB)).tn, 8, rfl, (by first | trivial | (simp; done) | (simp; omega)), (by first | trivial | (simp; done) | (simp; omega)), (by first | trivial | (simp; done) | (simp; omega)), (by first | trivial | (simp; done) | (simp; omega)), (by first | trivial | (simp; done) | (simp; omega)), kpB.out, krw2.out, .inl rfl, ?_, kG2.out, kl2.out, ?_, ?_, ?_, ?_⟩
   ·have := kless.out
    rw [List.length_append]
    simp only [List.length_cons, List.length_nil]
    omega
   ·exact kca2.out.next kok2.out ktn.out
   ·exact kXD.out
   ·exact kXD.out.ok ko.out
   ·exact kFD.out
 ·refine ⟨s8, kk8, bb8, a8, [], [], .nil, 0, rfl, ?_, ?_, ?_, ?_, ?_, kp8.out, RRows.nil, .inr ⟨rfl, rfl⟩, by simpa using hs8, .start kl8.out, kl8.out, .inl rfl, kX4.out, kX4.out.ok ko.out, kF4.out⟩ <;> simp only [goS, plainEv, resultsEv, resultListEv, reduceIte, Nat.reduceEqDiff, goT, beq_self_eq_true, goH] <;> rfl
end
end Go.Proofs.YtmdakolcndpjeaaGreatDoor
end
