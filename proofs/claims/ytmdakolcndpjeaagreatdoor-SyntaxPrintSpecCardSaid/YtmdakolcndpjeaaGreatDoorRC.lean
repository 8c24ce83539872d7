/-
 Part of the proof: RC.
-/
import Derived.Test.YtmdakolcndpjeaaGreatDoorRB
set_option maxHeartbeats 64000000
set_option maxRecDepth 100000
set_option linter.unusedSimpArgs false
set_option linter.unusedVariables false
set_option linter.constructorNameAsVariable false
section
namespace Go.Proofs.YtmdakolcndpjeaaGreatDoor
open Go.AE Go.Lex Go.Pol Go.Syn
section
variable {tok : Tok} {sz : Nat} {l : List Tk} {e : Int}
theorem runP_at {α : Type} {P Q : List Tk → PR α} {r : List Tk} (h : P r = Q r) : runP P e (.good r) = runP Q e (.good r) := by simp only [runP, h]
theorem bxw (n : Int) (s : List UInt8) : buildEv Tryz.prog 26 [(0, .v (.int .i64 2)), (1, .v (.int .i64 n)), (3, .v (.string (bs s)))] = some (.agg (row5 2 n 0 s .nil 0 [])) := by kernel_rfl
theorem bxg (n : Int) (tok : Tok) (sz : Nat) (rows : List (List AV)) : buildEv Tryz.prog 26 [(0, .v (.int .i64 3)), (1, .v (.int .i64 n)), (4, .list tok sz rows)] = some (.agg (row5 3 n 0 [] tok sz rows)) := by kernel_rfl
def H30 (h : Heap) (row : List AV) : Heap := ((h.push row).push (row5 0 0 0 [] .nil 0 [])).push (pst .nil 0 [] 0 0 false 0)
theorem H30_ext (h : Heap) (row : List AV) : Ext h (H30 h row) := ((Ext.push h row).trans (.push _ _)).trans (.push _ _)
theorem H30_box {h h' : Heap} {row : List AV} (x : Ext (H30 h row) h') : h'.boxes[h.boxes.length]? = some row ∧ h'.boxes[h.boxes.length + 1]? = some (row5 0 0 0 [] .nil 0 []) ∧ h'.boxes[h.boxes.length + 1 + 1]? = some (pst .nil 0 [] 0 0 false 0) ∧ h.boxes.length < h'.boxes.length ∧ h.boxes.length + 1 < h'.boxes.length ∧ h.boxes.length + 1 + 1 < h'.boxes.length := by
 have b0 := x.box _ row (push_old (push_old (push_last h row)))
 have b1 := x.box (h.boxes.length + 1) (row5 0 0 0 [] .nil 0 []) (push_old (by have := push_last (h.push row) (row5 0 0 0 [] .nil 0 []); rw [push_len] at this; exact this))
 have b2 := x.box (h.boxes.length + 1 + 1) (pst .nil 0 [] 0 0 false 0) (by have := push_last ((h.push row).push (row5 0 0 0 [] .nil 0 [])) (pst .nil 0 [] 0 0 false 0); rw [push_len, push_len] at this; exact this)
 exact ⟨b0, b1, b2, (List.getElem?_eq_some_iff.1 b0).1, (List.getElem?_eq_some_iff.1 b1).1, (List.getElem?_eq_some_iff.1 b2).1⟩
theorem exprR_some {m : Nat} {r : List Tk} (h : isT kSome r = true) : exprP (m + 1) r = (wantT kSome r).bind fun _ r => (nameP r).bind fun s r => .ok (.mk 1 0 0 s []) r := by
 unfold exprP wantT
 rw [if_pos h, if_pos h]
 rfl
theorem exprR_weight {m : Nat} {r : List Tk} (h : isT kSome r = false) (h2 : isT kWeight r = true) : exprP (m + 1) r = (wantT kWeight r).bind fun _ r => (numP r).bind fun n r => (wantT kOf r).bind fun _ r => (nameP r).bind fun s r => .ok (.mk 2 n 0 s []) r := by
 unfold exprP
 rw [h, if_neg (by decide), if_pos h2]
 conv => rhs; unfold wantT
 rw [if_pos h2]
 rfl
theorem rfSomeX {m : Nat} (D : Rd0 tok sz l) (hv : Valid l) {r : List Tk} {row : List AV} (hr : PsRow tok sz l e (.good r) row) (hi : isT kSome r = true) (h : Heap) : Steps1 encX 137 [.agg row] tok sz l e h (runP (exprP (m + 1)) e (.good r)) := by
 have a70 := ag70; have s70 := sz70; have z70 := zc70; have a4 := ag4'; have a26 := ag26; have s26 := sz26; have z26 := zc26
 obtain ⟨h1, c1, x1⟩ := rfNext D hv hr 1 kSome (kind_word (by decide)) (H30 h row)
 obtain ⟨b1, -, -, m1, -, -⟩ := H30_box x1
 rw [show nxP kSome (.good r) = true from hi] at c1
 obtain ⟨r2, h2, c2, x2, row2, rfl, p2⟩ := rfWord D hv hr kSome (by decide) h1
 obtain ⟨r3, h3, c3, x3, v3, row3, s3, rfl, p3, rfl, q3⟩ := rfName D p2 h2
 obtain ⟨-, e2, e3, -, n2, n3⟩ := H30_box ((x1.trans x2).trans x3)
 have hfin : runP (exprP (m + 1)) e (.good r) = runP (fun r => PR.ok (.mk 1 0 0 s3 []) r) e (runP nameP e (runP (wantT kSome) e (.good r)).2).2 := by
  rw [runP_at (Q := fun r => (wantT kSome r).bind fun _ r => (nameP r).bind fun s r => .ok (.mk 1 0 0 s []) r) (exprR_some hi), runP_step (x := ()) (fun y _ => rfl), runP_step q3]
 rw [hfin]
 obtain ⟨w1, w2⟩ := runP_last (e := e) (Ex.mk 1 0 0 s3 []) (runP nameP e (runP (wantT kSome) e (.good r)).2).2
 unfold Steps1
 rw [w1]
 obtain ⟨n0, hn0, hrn, rfl⟩ := hr
 obtain ⟨k2, bb2, a2, rfl⟩ := p2.some_row
 obtain ⟨k3, bb3, a3, rfl⟩ := p3.some_row
 have kx := Keep.mk (((((((H30_ext h _).trans x1).trans x2).trans x3).put_new (b := h.boxes.length + 1) (by omega) (row5 1 0 0 s3 .nil 0 [])).put_new (b := h.boxes.length + 1 + 1) (by omega) (pst tok sz l k3 e bb3 a3)).trans (.push _ (pst tok sz l k3 e bb3 a3)))
 have kw := Keep.mk w2
 have kp := Keep.mk p3
 clear D hv hrn p2 p3 q3 hfin w1 w2 x1 x2 x3
 simp only [kSome] at c1 c2
 unfold H30 at c1
 refine call_post rfl Tryz.func137 rfl ?_
 repeat' (first | simp (config := { maxSteps := 4000000 }) (disch := first | exact dZ | fail) only [goS, plainEv, resultsEv, resultListEv, reduceIte, Nat.reduceEqDiff, goT, beq_self_eq_true, goH, goU, rs137, pss, ld70, st70, st26, bx1, put_push_eq, put_push_ne, push_len, *] | (refine dX ?_ ?_ <;> (intro _; try (exfalso; omega))) | (refine dY ?_ ?_ <;> intro _) | fail)
 refine run_draw_but [(2, 3)] (by kernel_rfl) ?_ ?_
 ·intro pr hp
  simp only [List.mem_singleton] at hp
  subst hp
  refine stable_before (x := .ptr (.box h3.boxes.length) 0) (v := .agg (pst tok sz l k3 e bb3 a3)) (by kernel_rfl) rfl rfl rfl (by kernel_rfl) (same_pst _ _ _ _ _ _ _) ?_ ?_
  ·simp only [List.take_succ_cons, List.take_zero]
   repeat' (first | simp (config := { maxSteps := 4000000 }) (disch := first | exact dZ | fail) only [goS, plainEv, resultsEv, resultListEv, reduceIte, Nat.reduceEqDiff, goT, beq_self_eq_true, goH, goU, pss, ld70, bx1, push_len, *] | (refine dX ?_ ?_ <;> (intro _; try (exfalso; omega))) | (refine dY ?_ ?_ <;> intro _) | fail)
   exact ⟨by trivial, by trivial, by trivial⟩
  ·simp only [List.take_succ_cons, List.take_zero]
   repeat' (first | simp (config := { maxSteps := 4000000 }) (disch := first | exact dZ | fail) only [goS, plainEv, resultsEv, resultListEv, reduceIte, Nat.reduceEqDiff, goT, beq_self_eq_true, goH, goU, pss, ld70, st26, bx1, push_len, *] | (refine dX ?_ ?_ <;> (intro _; try (exfalso; omega))) | (refine dY ?_ ?_ <;> intro _) | fail)
   exact ⟨by trivial, by trivial⟩
 repeat' (first | simp (config := { maxSteps := 4000000 }) (disch := first | exact dZ | fail) only [goS, plainEv, resultsEv, resultListEv, reduceIte, Nat.reduceEqDiff, goT, beq_self_eq_true, goH, goU, rs137, pss, ld70, ld26, st70, st26, bx1, put_push_eq, put_push_ne, push_len, *] | (refine dX ?_ ?_ <;> (intro _; try (exfalso; omega))) | (refine dY ?_ ?_ <;> intro _) | fail)
 exact ⟨_, _, rfl, kx.out, _, _, _, rfl, kp.out, ⟨_, rfl, row_leaf 1 0 0 s3⟩, kw.out⟩
theorem rfWeightX {m : Nat} (D : Rd0 tok sz l) (hv : Valid l) {r : List Tk} {row : List AV} (hr : PsRow tok sz l e (.good r) row) (hi1 : isT kSome r = false) (hi : isT kWeight r = true) (h : Heap) : Steps1 encX 137 [.agg row] tok sz l e h (runP (exprP (m + 1)) e (.good r)) := by
 have a70 := ag70; have s70 := sz70; have z70 := zc70; have a4 := ag4'; have a26 := ag26; have s26 := sz26; have z26 := zc26
 obtain ⟨h0, c0, x0⟩ := rfNext D hv hr 1 kSome (kind_word (by decide)) (H30 h row)
 obtain ⟨b0, -, -, m0, -, -⟩ := H30_box x0
 rw [show nxP kSome (.good r) = false from hi1] at c0
 obtain ⟨h1, c1, x1⟩ := rfNext D hv hr 1 kWeight (kind_word (by decide)) h0
 obtain ⟨b1, -, -, m1, -, -⟩ := H30_box (x0.trans x1)
 rw [show nxP kWeight (.good r) = true from hi] at c1
 obtain ⟨r2, h2, c2, x2, row2, rfl, p2⟩ := rfWord D hv hr kWeight (by decide) h1
 obtain ⟨r3, h3, c3, x3, v3, row3, n3, rfl, p3, rfl, q3⟩ := rfNumber D p2 h2
 obtain ⟨r4, h4, c4, x4, row4, rfl, p4⟩ := rfWord D hv p3 kOf (by decide) (h3.push row3)
 obtain ⟨r5, h5, c5, x5, v5, row5', s5, rfl, p5, rfl, q5⟩ := rfName D p4 h4
 obtain ⟨-, e2, e3, -, d2, d3⟩ := H30_box ((((((x0.trans x1).trans x2).trans x3).trans (.push _ row3)).trans x4).trans x5)
 have hfin : runP (exprP (m + 1)) e (.good r) = runP (fun r => PR.ok (.mk 2 n3 0 s5 []) r) e (runP nameP e (runP (wantT kOf) e (runP numP e (runP (wantT kWeight) e (.good r)).2).2).2).2 := by
  rw [runP_at (Q := fun r => (wantT kWeight r).bind fun _ r => (numP r).bind fun n r => (wantT kOf r).bind fun _ r => (nameP r).bind fun s r => .ok (.mk 2 n 0 s []) r) (exprR_weight hi1 hi), runP_step (x := ()) (fun y _ => rfl), runP_step q3, runP_step (x := ()) (fun y _ => rfl), runP_step q5]
 rw [hfin]
 obtain ⟨w1, w2⟩ := runP_last (e := e) (Ex.mk 2 n3 0 s5 []) (runP nameP e (runP (wantT kOf) e (runP numP e (runP (wantT kWeight) e (.good r)).2).2).2).2
 unfold Steps1
 rw [w1]
 obtain ⟨n0, hn0, hrn, rfl⟩ := hr
 obtain ⟨k2, bb2, a2, rfl⟩ := p2.some_row
 obtain ⟨k3, bb3, a3, rfl⟩ := p3.some_row
 obtain ⟨k4, bb4, a4', rfl⟩ := p4.some_row
 obtain ⟨k5, bb5, a5, rfl⟩ := p5.some_row
 have f3 := (x4.trans x5).box h3.boxes.length _ (push_last h3 (pst tok sz l k3 e bb3 a3))
 have kx := Keep.mk ((((((((((H30_ext h _).trans x0).trans x1).trans x2).trans x3).trans (.push _ (pst tok sz l k3 e bb3 a3))).trans x4).trans x5).put_new (b := h.boxes.length + 1) (by omega) (row5 2 n3 0 s5 .nil 0 [])).put_new (b := h.boxes.length + 1 + 1) (by omega) (pst tok sz l k5 e bb5 a5) |>.trans (.push _ (pst tok sz l k5 e bb5 a5)))
 have kw := Keep.mk w2
 have kp := Keep.mk p5
 clear D hv hrn p2 p3 p4 p5 q3 q5 hfin w1 w2 x0 x1 x2 x3 x4 x5
 simp only [kSome, kWeight, kOf] at c0 c1 c2 c4
 unfold H30 at c0
 refine call_post rfl Tryz.func137 rfl ?_
 repeat' (first | simp (config := { maxSteps := 4000000 }) (disch := first | exact dZ | fail) only [goS, plainEv, resultsEv, resultListEv, reduceIte, Nat.reduceEqDiff, goT, beq_self_eq_true, goH, goU, rs137, pss, ld70, st70, st26, bxw, put_push_eq, put_push_ne, push_len, *] | (refine dX ?_ ?_ <;> (intro _; try (exfalso; omega))) | (refine dY ?_ ?_ <;> intro _) | fail)
 refine run_draw_but [(3, 4)] (by kernel_rfl) ?_ ?_
 ·intro pr hp
  simp only [List.mem_singleton] at hp
  subst hp
  refine stable_before (x := .ptr (.box h5.boxes.length) 0) (v := .agg (pst tok sz l k5 e bb5 a5)) (by kernel_rfl) rfl rfl rfl (by kernel_rfl) (same_pst _ _ _ _ _ _ _) ?_ ?_
  ·simp only [List.take_succ_cons, List.take_zero]
   repeat' (first | simp (config := { maxSteps := 4000000 }) (disch := first | exact dZ | fail) only [goS, plainEv, resultsEv, resultListEv, reduceIte, Nat.reduceEqDiff, goT, beq_self_eq_true, goH, goU, pss, ld70, bxw, push_len, *] | (refine dX ?_ ?_ <;> (intro _; try (exfalso; omega))) | (refine dY ?_ ?_ <;> intro _) | fail)
   exact ⟨by trivial, by trivial, by trivial⟩
  ·simp only [List.take_succ_cons, List.take_zero]
   repeat' (first | simp (config := { maxSteps := 4000000 }) (disch := first | exact dZ | fail) only [goS, plainEv, resultsEv, resultListEv, reduceIte, Nat.reduceEqDiff, goT, beq_self_eq_true, goH, goU, pss, ld70, st26, bxw, push_len, *] | (refine dX ?_ ?_ <;> (intro _; try (exfalso; omega))) | (refine dY ?_ ?_ <;> intro _) | fail)
   exact ⟨by trivial, by trivial⟩
 repeat' (first | simp (config := { maxSteps := 4000000 }) (disch := first | exact dZ | fail) only [goS, plainEv, resultsEv, resultListEv, reduceIte, Nat.reduceEqDiff, goT, beq_self_eq_true, goH, goU, rs137, pss, ld70, ld26, st70, st26, bxw, put_push_eq, put_push_ne, push_len, *] | (refine dX ?_ ?_ <;> (intro _; try (exfalso; omega))) | (refine dY ?_ ?_ <;> intro _) | fail)
 exact ⟨_, _, rfl, kx.out, _, _, _, rfl, kp.out, ⟨_, rfl, row_leaf 2 n3 0 s5⟩, kw.out⟩
end
end Go.Proofs.YtmdakolcndpjeaaGreatDoor
end

section
namespace Go.Proofs.YtmdakolcndpjeaaGreatDoor
open Go.AE Go.Lex Go.Pol Go.Syn
section
variable {tok : Tok} {sz : Nat} {l : List Tk} {e : Int}
theorem build24_2 (k n no : Int) (s : List UInt8) (tok : Tok) (sz : Nat) (rows : List (List AV)) (k' n' no' : Int) (s' : List UInt8) (tok' : Tok) (sz' : Nat) (rows' : List (List AV)) :
 buildSliceEv Tryz.prog 24 2 [(0, .agg (row5 k n no s tok sz rows)), (1, .agg (row5 k' n' no' s' tok' sz' rows'))] = some (.list .tight 5 [row5 k n no s tok sz rows, row5 k' n' no' s' tok' sz' rows']) := by kernel_rfl
theorem exprR_upto {m : Nat} {r : List Tk} (h : isT kSome r = false) (h2 : isT kWeight r = false) (h3 : isT kUpto r = true) : exprP (m + 1) r = (wantT kUpto r).bind fun _ r => (numP r).bind fun n r => (inP (exprP m) r).bind fun a r => (wantT kElse r).bind fun _ r => (inP (exprP m) r).bind fun b r => .ok (.mk 4 n 0 [] [a, b]) r := by
 unfold exprP
 rw [h, h2, if_neg (by decide), if_neg (by decide), if_pos h3]
 conv => rhs; unfold wantT
 rw [if_pos h3]
 rfl
theorem in_le {m : Nat} : ∀ r u q, inP (exprP m) r = .ok u q → q.length ≤ r.length := fun r u q h => by
 have := (nice_in (nice_expr m)).len r
 rw [h] at this; exact this
theorem rfUptoX {m : Nat} (E : RX tok sz l e m) (D : Rd0 tok sz l) (hv : Valid l) {r : List Tk} {row : List AV} (hr : PsRow tok sz l e (.good r) row) (hlen : r.length < m + 1) (hi1 : isT kSome r = false) (hi2 : isT kWeight r = false) (hi : isT kUpto r = true) (h : Heap) (ho : okHeap h = true) : Steps1 encX 137 [.agg row] tok sz l e h (runP (exprP (m + 1)) e (.good r)) := by
 have a70 := ag70; have s70 := sz70; have z70 := zc70; have a4 := ag4'; have a26 := ag26; have s26 := sz26; have z26 := zc26; have a24 := ag24; have s24 := sz24
 have l0 : Lt (m + 1) (.good r) := fun q hq => by injection hq with hq; subst hq; exact hlen
 obtain ⟨h0, c0, x0⟩ := rfNext D hv hr 1 kSome (kind_word (by decide)) (H30 h row)
 obtain ⟨b0, -, -, m0, -, -⟩ := H30_box x0
 rw [show nxP kSome (.good r) = false from hi1] at c0
 obtain ⟨h1, c1, x1⟩ := rfNext D hv hr 1 kWeight (kind_word (by decide)) h0
 obtain ⟨b1, -, -, m1, -, -⟩ := H30_box (x0.trans x1)
 rw [show nxP kWeight (.good r) = false from hi2] at c1
 obtain ⟨h2, c2, x2⟩ := rfNext D hv hr 1 kUpto (kind_word (by decide)) h1
 obtain ⟨b2, -, -, m2, -, -⟩ := H30_box ((x0.trans x1).trans x2)
 rw [show nxP kUpto (.good r) = true from hi] at c2
 obtain ⟨r3, h3, c3, x3, row3, rfl, p3⟩ := rfWord D hv hr kUpto (by decide) h2
 have l3 := l0.step1 (e := e) (want_lt kUpto)
 obtain ⟨r4, h4, c4, x4, v4, row4, n4, rfl, p4, rfl, q4⟩ := rfNumber D p3 h3
 have l4 := l3.step (e := e) fun r u q w => Nat.le_of_lt (num_lt r u q w)
 obtain ⟨r5, h5, c5, x5, v5, row5', xa, rfl, p5, ⟨ra, rfl, hxa⟩, q5⟩ := rfInside E D hv p4 l4 (h4.push row4) ((((((H30_ext h row).trans x0).trans x1).trans x2).trans x3 |>.trans x4).trans (.push _ row4) |>.ok ho)
 have l5 := l4.step (e := e) (in_le (m := m))
 obtain ⟨r6, h6, c6, x6, row6, rfl, p6⟩ := rfWord D hv p5 kElse (by decide) ((h5.push ra).push row5')
 have l6 := l5.step (e := e) fun r u q w => Nat.le_of_lt (want_lt kElse r u q w)
 have X5 := ((((((H30_ext h row).trans x0).trans x1).trans x2).trans x3 |>.trans x4).trans (.push _ row4)).trans x5
 have X6 := ((X5.trans (.push _ ra)).trans (.push _ row5')).trans x6
 obtain ⟨r7, h7, c7, x7, v7, row7, xb, rfl, p7, ⟨rb, rfl, hxb⟩, q7⟩ := rfInside E D hv p6 l6 h6 (X6.ok ho)
 obtain ⟨-, e2, e3, -, d2, d3⟩ := H30_box (((((((((x0.trans x1).trans x2).trans x3).trans x4).trans (.push _ row4)).trans x5).trans (.push _ ra)).trans (.push _ row5') |>.trans x6).trans x7)
 have hfin : runP (exprP (m + 1)) e (.good r) = runP (fun r => PR.ok (.mk 4 n4 0 [] [xa, xb]) r) e (runP (inP (exprP m)) e (runP (wantT kElse) e (runP (inP (exprP m)) e (runP numP e (runP (wantT kUpto) e (.good r)).2).2).2).2).2 := by
  rw [runP_at (Q := fun r => (wantT kUpto r).bind fun _ r => (numP r).bind fun n r => (inP (exprP m) r).bind fun a r => (wantT kElse r).bind fun _ r => (inP (exprP m) r).bind fun b r => .ok (.mk 4 n 0 [] [a, b]) r) (exprR_upto hi1 hi2 hi), runP_step (x := ()) (fun y _ => rfl), runP_step q4, runP_step q5, runP_step (x := ()) (fun y _ => rfl), runP_step q7]
 rw [hfin]
 obtain ⟨w1, w2⟩ := runP_last (e := e) (Ex.mk 4 n4 0 [] [xa, xb]) (runP (inP (exprP m)) e (runP (wantT kElse) e (runP (inP (exprP m)) e (runP numP e (runP (wantT kUpto) e (.good r)).2).2).2).2).2
 unfold Steps1
 rw [w1]
 obtain ⟨n0, hn0, hrn, rfl⟩ := hr
 obtain ⟨k3, bb3, a3, rfl⟩ := p3.some_row
 obtain ⟨k4, bb4, a4', rfl⟩ := p4.some_row
 obtain ⟨k5, bb5, a5, rfl⟩ := p5.some_row
 obtain ⟨k6, bb6, a6, rfl⟩ := p6.some_row
 obtain ⟨k7, bb7, a7, rfl⟩ := p7.some_row
 obtain ⟨tka, sza, rwa, rfl, -⟩ := Row.five hxa
 obtain ⟨tkb, szb, rwb, rfl, -⟩ := Row.five hxb
 have krow := Keep.mk (row_list (k := 4) (n := n4) (no := 0) (s := []) (l := [xa, xb]) (tok := .tight) (sz := 5) ((Go.Pol.Rows.nil.snoc hxa).snoc hxb) (fun _ _ => rfl) (by simp))
 have f4 := ((((x5.trans (.push _ (row5 xa.kind xa.n xa.no xa.name tka sza rwa))).trans (.push _ (pst tok sz l k5 e bb5 a5))).trans x6).trans x7).box h4.boxes.length _ (push_last h4 (pst tok sz l k4 e bb4 a4'))
 have f5 := (x6.trans x7).box h5.boxes.length _ (push_old (push_last h5 (row5 xa.kind xa.n xa.no xa.name tka sza rwa)))
 have f6 := x6.box (h5.boxes.length + 1) (pst tok sz l k5 e bb5 a5) (by have := push_last (h5.push (row5 xa.kind xa.n xa.no xa.name tka sza rwa)) (pst tok sz l k5 e bb5 a5); rw [push_len] at this; exact this)
 have g5 := (List.getElem?_eq_some_iff.1 f5).1
 have kx := Keep.mk ((((X6.trans x7).put_new (b := h.boxes.length + 1) (by omega) (row5 4 n4 0 [] .tight 5 [row5 xa.kind xa.n xa.no xa.name tka sza rwa, row5 xb.kind xb.n xb.no xb.name tkb szb rwb])).put_new (b := h.boxes.length + 1 + 1) (by omega) (pst tok sz l k7 e bb7 a7)).trans (.push _ (row5 xb.kind xb.n xb.no xb.name tkb szb rwb)) |>.trans (.push _ (pst tok sz l k7 e bb7 a7)))
 have kw := Keep.mk w2
 have kp := Keep.mk p7
 clear E D hv hrn p3 p4 p5 p6 p7 q4 q5 q7 hfin w1 w2 X5 X6 x0 x1 x2 x3 x4 x5 x6 x7 l0 l3 l4 l5 l6 hxa hxb ho
 simp only [kSome, kWeight, kUpto, kElse] at c0 c1 c2 c3 c6
 unfold H30 at c0
 refine call_post rfl Tryz.func137 rfl ?_
 repeat' (first | simp (config := { maxSteps := 4000000 }) (disch := first | exact dZ | fail) only [goS, plainEv, resultsEv, resultListEv, reduceIte, Nat.reduceEqDiff, goT, beq_self_eq_true, goH, goU, rs137, pss, ld70, ld26, st70, st26, bx4, build24_2, put_push_eq, put_push_ne, push_len, *] | (refine dX ?_ ?_ <;> (intro _; try (exfalso; omega))) | (refine dY ?_ ?_ <;> intro _) | fail)
 refine run_draw_but [(5, 6)] (by kernel_rfl) ?_ ?_
 ·intro pr hp
  simp only [List.mem_singleton] at hp
  subst hp
  refine stable_before (x := .ptr (.box (h7.boxes.length + 1)) 0) (v := .agg (pst tok sz l k7 e bb7 a7)) (by kernel_rfl) rfl rfl rfl (by kernel_rfl) (same_pst _ _ _ _ _ _ _) ?_ ?_
  ·simp only [List.take_succ_cons, List.take_zero]
   repeat' (first | simp (config := { maxSteps := 4000000 }) (disch := first | exact dZ | fail) only [goS, plainEv, resultsEv, resultListEv, reduceIte, Nat.reduceEqDiff, goT, beq_self_eq_true, goH, goU, pss, ld70, ld26, bx4, build24_2, push_len, *] | (refine dX ?_ ?_ <;> (intro _; try (exfalso; omega))) | (refine dY ?_ ?_ <;> intro _) | fail)
   exact ⟨by trivial, by trivial, by trivial⟩
  ·simp only [List.take_succ_cons, List.take_zero]
   repeat' (first | simp (config := { maxSteps := 4000000 }) (disch := first | exact dZ | fail) only [goS, plainEv, resultsEv, resultListEv, reduceIte, Nat.reduceEqDiff, goT, beq_self_eq_true, goH, goU, pss, ld70, ld26, st26, bx4, build24_2, push_len, *] | (refine dX ?_ ?_ <;> (intro _; try (exfalso; omega))) | (refine dY ?_ ?_ <;> intro _) | fail)
   exact ⟨by trivial, by trivial⟩
 repeat' (first | simp (config := { maxSteps := 4000000 }) (disch := first | exact dZ | fail) only [goS, plainEv, resultsEv, resultListEv, reduceIte, Nat.reduceEqDiff, goT, beq_self_eq_true, goH, goU, rs137, pss, ld70, ld26, st70, st26, bx4, build24_2, put_push_eq, put_push_ne, push_len, *] | (refine dX ?_ ?_ <;> (intro _; try (exfalso; omega))) | (refine dY ?_ ?_ <;> intro _) | fail)
 exact ⟨_, _, rfl, kx.out, _, _, _, rfl, kp.out, ⟨_, rfl, krow.out⟩, kw.out⟩
end
end Go.Proofs.YtmdakolcndpjeaaGreatDoor
end

section
namespace Go.Proofs.YtmdakolcndpjeaaGreatDoor
open Go.AE Go.Lex Go.Pol Go.Syn
section
variable {tok : Tok} {sz : Nat} {l : List Tk} {e : Int}
def sizeS : Ps → Nat
 | .bad _ => 0
 | .good r => r.length + 1
theorem sizeS_le {m : Nat} {s : Ps} (h : Lt m s) : sizeS s ≤ m := by
 cases s with
 | bad a => exact Nat.zero_le _
 | good r => exact h r rfl
theorem sizeS_nx {x : List UInt8} {s : Ps} (h : nxP x s = true) : 2 ≤ sizeS s := by
 cases s with
 | bad a => cases h
 | good r =>
  cases r with
  | nil => cases h
  | cons t r => simp [sizeS]
theorem Lt.size (s : Ps) : Lt (sizeS s) s := fun r hr => by subst hr; simp [sizeS]
theorem some_end {f m : Nat} {s : Ps} (hn : nxP cComma s = false) (hl : Lt f s) : (runP (someP cComma (nextP (exprP m)) f) e s).2 = s ∧ ∀ t, (runP (someP cComma (nextP (exprP m)) f) e s).1 = some t → t = [] := by
 cases s with
 | bad a => exact ⟨rfl, fun t ht => by cases ht⟩
 | good r =>
  have hf := hl r rfl
  obtain ⟨f', rfl⟩ : ∃ f', f = f' + 1 := ⟨f - 1, by omega⟩
  have : someP cComma (nextP (exprP m)) (f' + 1) r = .ok [] r := by
   unfold someP
   rw [if_neg (by rw [show isT cComma r = false from hn]; decide)]
  rw [runP_ok this]
  exact ⟨rfl, fun t ht => by injection ht with ht; exact ht.symm⟩
theorem some_next {f m : Nat} {s : Ps} (hn : nxP cComma s = true) (hl : Lt f s) {x : Ex} (hx : ∀ y, (runP (exprP m) e (runP (wantT cComma) e s).2).1 = some y → x = y) :
 sizeS (runP (exprP m) e (runP (wantT cComma) e s).2).2 < sizeS s ∧ ∃ f', Lt f' (runP (exprP m) e (runP (wantT cComma) e s).2).2 ∧ (runP (someP cComma (nextP (exprP m)) f) e s).2 = (runP (someP cComma (nextP (exprP m)) f') e (runP (exprP m) e (runP (wantT cComma) e s).2).2).2 ∧
  ∀ t, (runP (someP cComma (nextP (exprP m)) f) e s).1 = some t → ∃ t', (runP (someP cComma (nextP (exprP m)) f') e (runP (exprP m) e (runP (wantT cComma) e s).2).2).1 = some t' ∧ t = x :: t' := by
 cases s with
 | bad a => cases hn
 | good r =>
  have hf := hl r rfl
  have hi : isT cComma r = true := hn
  obtain ⟨f', rfl⟩ : ∃ f', f = f' + 1 := ⟨f - 1, by omega⟩
  have hl1 : Lt (r.length + 1) (.good r) := fun q hq => by injection hq with hq; subst hq; exact Nat.lt_succ_self _
  refine ⟨?_, f', ?_, ?_⟩
  ·have := sizeS_le ((hl1.step1 (e := e) (want_lt cComma)).step (e := e) (expr_le (m := m)))
   exact Nat.lt_of_le_of_lt this (Nat.lt_succ_self _)
  ·exact (hl.step1 (e := e) (want_lt cComma)).step (e := e) (expr_le (m := m))
  ·have he : someP cComma (nextP (exprP m)) (f' + 1) r = (wantT cComma r).bind fun _ r => (exprP m r).bind fun x r => (someP cComma (nextP (exprP m)) f' r).bind fun t r => .ok (x :: t) r := by
    conv => lhs; unfold someP
    rw [if_pos hi]
    unfold nextP
    cases wantT cComma r <;> rfl
   have h2 : runP (someP cComma (nextP (exprP m)) (f' + 1)) e (.good r) = runP (fun r => (someP cComma (nextP (exprP m)) f' r).bind fun t r => .ok (x :: t) r) e (runP (exprP m) e (runP (wantT cComma) e (.good r)).2).2 := by
    rw [runP_at (Q := fun r => (wantT cComma r).bind fun _ r => (exprP m r).bind fun x r => (someP cComma (nextP (exprP m)) f' r).bind fun t r => .ok (x :: t) r) he, runP_step (x := ()) (fun y _ => rfl), runP_step hx]
   rw [h2]
   generalize (runP (exprP m) e (runP (wantT cComma) e (.good r)).2).2 = s2
   rw [runP_bind]
   cases hq : (runP (someP cComma (nextP (exprP m)) f') e s2).1 with
   | none => exact ⟨rfl, fun t ht => by cases ht⟩
   | some t' =>
    obtain ⟨w1, w2⟩ := runP_last (e := e) (x :: t') (runP (someP cComma (nextP (exprP m)) f') e s2).2
    exact ⟨w1, fun t ht => ⟨t', rfl, (w2 t ht).symm⟩⟩
structure Goes (e : Int) (m : Nat) (xa : Ex) (s6 : Ps) (xs : List Ex) (s : Ps) : Prop where
 go : ∃ f, Lt f s ∧ (runP (someP cComma (nextP (exprP m)) (m + 1)) e s6).2 = (runP (someP cComma (nextP (exprP m)) f) e s).2 ∧
  ∀ y, (runP (someP cComma (nextP (exprP m)) (m + 1)) e s6).1 = some y → ∃ t, (runP (someP cComma (nextP (exprP m)) f) e s).1 = some t ∧ xa :: y = xs ++ t
theorem Goes.start {m : Nat} {xa : Ex} {s : Ps} (h : Lt (m + 1) s) : Goes e m xa s [xa] s := ⟨m + 1, h, rfl, fun y hy => ⟨y, hy, rfl⟩⟩
theorem Goes.next {m : Nat} {xa : Ex} {s6 s : Ps} {xs : List Ex} (G : Goes e m xa s6 xs s) (hn : nxP cComma s = true) {x : Ex} (hx : ∀ y, (runP (exprP m) e (runP (wantT cComma) e s).2).1 = some y → x = y) :
 sizeS (runP (exprP m) e (runP (wantT cComma) e s).2).2 < sizeS s ∧ Goes e m xa s6 (xs ++ [x]) (runP (exprP m) e (runP (wantT cComma) e s).2).2 := by
 obtain ⟨f, h1, h2, h3⟩ := G.go
 obtain ⟨k1, f', k2, k3, k4⟩ := some_next hn h1 hx
 refine ⟨k1, f', k2, h2.trans k3, fun y hy => ?_⟩
 obtain ⟨t, ht, hy2⟩ := h3 y hy
 obtain ⟨t', ht', rfl⟩ := k4 t ht
 exact ⟨t', ht', by rw [hy2, List.append_assoc]; rfl⟩
theorem Goes.done {m : Nat} {xa : Ex} {s6 s : Ps} {xs : List Ex} (G : Goes e m xa s6 xs s) (hn : nxP cComma s = false) (n : Int) :
 (runP (fun r => (someP cComma (nextP (exprP m)) (m + 1) r).bind fun t r => (wantT cClose r).bind fun _ r => .ok (Ex.mk 3 n 0 [] (xa :: t)) r) e s6).2 = (runP (wantT cClose) e s).2 ∧
  ∀ y, (runP (fun r => (someP cComma (nextP (exprP m)) (m + 1) r).bind fun t r => (wantT cClose r).bind fun _ r => .ok (Ex.mk 3 n 0 [] (xa :: t)) r) e s6).1 = some y → Ex.mk 3 n 0 [] xs = y := by
 obtain ⟨f, h1, h2, h3⟩ := G.go
 obtain ⟨k1, k2⟩ := some_end (e := e) (m := m) hn h1
 rw [k1] at h2
 rw [runP_bind]
 cases hq : (runP (someP cComma (nextP (exprP m)) (m + 1)) e s6).1 with
 | none =>
  obtain ⟨a, ha⟩ := runP_none hq
  rw [h2] at ha
  subst ha
  rw [h2]
  exact ⟨rfl, fun y hy => by cases hy⟩
 | some y0 =>
  obtain ⟨t, ht, hy⟩ := h3 y0 hq
  obtain rfl := k2 t ht
  rw [List.append_nil] at hy
  rw [h2]
  have key : runP (fun r => (wantT cClose r).bind fun _ r => PR.ok (Ex.mk 3 n 0 [] (xa :: y0)) r) e s = runP (fun r => PR.ok (Ex.mk 3 n 0 [] xs) r) e (runP (wantT cClose) e s).2 := by
   rw [hy, runP_step (x := ()) (fun y _ => rfl)]
  simp only [key]
  exact runP_last (e := e) (Ex.mk 3 n 0 [] xs) _
theorem exprR_gate {m : Nat} {r : List Tk} (h : isT kSome r = false) (h2 : isT kWeight r = false) (h3 : isT kUpto r = false) : exprP (m + 1) r = (numP r).bind fun n r => (wantT kOf r).bind fun _ r => (wantT cOpen r).bind fun _ r => (exprP m r).bind fun a r => (someP cComma (nextP (exprP m)) (m + 1) r).bind fun t r => (wantT cClose r).bind fun _ r => .ok (Ex.mk 3 n 0 [] (a :: t)) r := by
 conv => lhs; unfold exprP
 rw [h, h2, h3, if_neg (by decide), if_neg (by decide), if_neg (by decide)]
 congr 1
 funext n r
 show ((wantT kOf r).bind fun _ r => (wantT cOpen r).bind fun _ r => PR.ok () r).bind _ = _
 cases wantT kOf r with
 | bad q => rfl
 | ok u q =>
  show ((wantT cOpen q).bind fun _ r => PR.ok () r).bind _ = (wantT cOpen q).bind _
  cases wantT cOpen q <;> rfl
theorem rfGateX {m : Nat} (E : RX tok sz l e m) (D : Rd0 tok sz l) (hv : Valid l) {r : List Tk} {row : List AV} (hr : PsRow tok sz l e (.good r) row) (hlen : r.length < m + 1) (hi1 : isT kSome r = false) (hi2 : isT kWeight r = false) (hi : isT kUpto r = false) (h : Heap) (ho : okHeap h = true) : Steps1 encX 137 [.agg row] tok sz l e h (runP (exprP (m + 1)) e (.good r)) := by
 have a70 := ag70; have s70 := sz70; have z70 := zc70; have a4 := ag4'; have a26 := ag26; have s26 := sz26; have z26 := zc26; have a24 := ag24; have s24 := sz24
 have l0 : Lt (m + 1) (.good r) := fun q hq => by injection hq with hq; subst hq; exact hlen
 have hbd : r.length ≤ 1000000000 := by
  obtain ⟨n, hn, hrn, -⟩ := hr
  have := D.few
  rw [hrn, List.length_drop]; omega
 have lb : Lt (1000000000 + 1) (.good r) := fun q hq => by injection hq with hq; subst hq; omega
 obtain ⟨h0, c0, x0⟩ := rfNext D hv hr 1 kSome (kind_word (by decide)) (H30 h row)
 obtain ⟨b0, -, -, m0, -, -⟩ := H30_box x0
 rw [show nxP kSome (.good r) = false from hi1] at c0
 obtain ⟨h1, c1, x1⟩ := rfNext D hv hr 1 kWeight (kind_word (by decide)) h0
 obtain ⟨b1, -, -, m1, -, -⟩ := H30_box (x0.trans x1)
 rw [show nxP kWeight (.good r) = false from hi2] at c1
 obtain ⟨h2, c2, x2⟩ := rfNext D hv hr 1 kUpto (kind_word (by decide)) h1
 obtain ⟨b2, -, -, m2, -, -⟩ := H30_box ((x0.trans x1).trans x2)
 rw [show nxP kUpto (.good r) = false from hi] at c2
 obtain ⟨r3, h3, c3, x3, v3, row3, n3, rfl, p3, rfl, q3⟩ := rfNumber D hr h2
 have l3 := l0.step1 (e := e) num_lt
 have lb3 := lb.step1 (e := e) num_lt
 obtain ⟨r4, h4, c4, x4, row4, rfl, p4⟩ := rfWord D hv p3 kOf (by decide) (h3.push row3)
 have l4 := l3.step (e := e) fun r u q w => Nat.le_of_lt (want_lt kOf r u q w)
 have lb4 := lb3.step (e := e) fun r u q w => Nat.le_of_lt (want_lt kOf r u q w)
 obtain ⟨r5, h5, c5, x5, row5', rfl, p5⟩ := rfSign D hv p4 cOpen (by decide) h4
 have l5 := l4.step (e := e) fun r u q w => Nat.le_of_lt (want_lt cOpen r u q w)
 have lb5 := lb4.step (e := e) fun r u q w => Nat.le_of_lt (want_lt cOpen r u q w)
 have X5 := ((((((H30_ext h row).trans x0).trans x1).trans x2).trans x3).trans (.push _ row3) |>.trans x4).trans x5
 obtain ⟨r6, h6, c6, x6, v6, row6, xa, rfl, p6, ⟨ra, rfl, hxa⟩, q6⟩ := rfWhole E p5 l5 h5 (X5.ok ho)
 have l6 := l5.step (e := e) (expr_le (m := m))
 have lb6 := lb5.step (e := e) (expr_le (m := m))
 have X6 := (X5.trans x6)
 obtain ⟨-, e2, e3, -, d2, d3⟩ := H30_box (((((((x0.trans x1).trans x2).trans x3).trans (.push _ row3)).trans x4).trans x5).trans x6)
 have hfin : runP (exprP (m + 1)) e (.good r) = runP (fun r => (someP cComma (nextP (exprP m)) (m + 1) r).bind fun t r => (wantT cClose r).bind fun _ r => .ok (Ex.mk 3 n3 0 [] (xa :: t)) r) e (runP (exprP m) e (runP (wantT cOpen) e (runP (wantT kOf) e (runP numP e (.good r)).2).2).2).2 := by
  rw [runP_at (Q := fun r => (numP r).bind fun n r => (wantT kOf r).bind fun _ r => (wantT cOpen r).bind fun _ r => (exprP m r).bind fun a r => (someP cComma (nextP (exprP m)) (m + 1) r).bind fun t r => (wantT cClose r).bind fun _ r => .ok (Ex.mk 3 n 0 [] (a :: t)) r) (exprR_gate hi1 hi2 hi), runP_step q3, runP_step (x := ()) (fun y _ => rfl), runP_step (x := ()) (fun y _ => rfl), runP_step q6]
 rw [hfin]
 have hG0 : Goes e m xa _ [xa] _ := Goes.start (e := e) (fun q hq => Nat.lt_succ_of_lt (l6 q hq))
 have hz0 := sizeS_le lb6
 generalize (runP (exprP m) e (runP (wantT cOpen) e (runP (wantT kOf) e (runP numP e (.good r)).2).2).2).2 = s6 at *
 unfold Steps1
 obtain ⟨n0, hn0, hrn, rfl⟩ := hr
 obtain ⟨k3, bb3, a3, rfl⟩ := p3.some_row
 obtain ⟨k4, bb4, a4', rfl⟩ := p4.some_row
 obtain ⟨k5, bb5, a5, rfl⟩ := p5.some_row
 obtain ⟨k6, bb6, a6, rfl⟩ := p6.some_row
 obtain ⟨tka, sza, rwa, rfl, -⟩ := Row.five hxa
 have f3 := ((x4.trans x5).trans x6).box h3.boxes.length _ (push_last h3 (pst tok sz l k3 e bb3 a3))
 have kE := Keep.mk E
 have kD := Keep.mk D
 have kv := Keep.mk hv
 have kxa := Keep.mk hxa
 have kG0 := Keep.mk hG0
 have kp6 := Keep.mk p6
 have ko := Keep.mk ho
 have kX6 := Keep.mk ((X6.trans (.push _ (row5 xa.kind xa.n xa.no xa.name tka sza rwa))).trans (.push _ (pst tok sz l k6 e bb6 a6)))
 have kl6 := Keep.mk l6
 clear E D hv hrn p3 p4 p5 p6 q3 q6 hfin X5 X6 x0 x1 x2 x3 x4 x5 x6 l0 l3 l4 l5 l6 lb lb3 lb4 lb5 lb6 hxa hG0 ho
 simp only [kSome, kWeight, kUpto] at c0 c1 c2
 simp only [kOf, cOpen] at c4 c5
 unfold H30 at c0
 refine call_post rfl Tryz.func137 rfl ?_
 repeat' (first | simp (config := { maxSteps := 4000000 }) (disch := first | exact dZ | fail) only [goS, plainEv, resultsEv, resultListEv, reduceIte, Nat.reduceEqDiff, goT, beq_self_eq_true, goH, goU, rs137, pss, ld70, ld26, st70, st26, build24, put_push_eq, put_push_ne, push_len, *] | (refine dX ?_ ?_ <;> (intro _; try (exfalso; omega))) | (refine dY ?_ ?_ <;> intro _) | fail)
 refine run_loop (fun k v h' => ∃ (s : Ps) (n : Int) (b : Bool) (a : Int) (xs : List Ex) (rows : List (List AV)) (tokL : Tok), k = sizeS s ∧ v.get 2 = .ptr (.box (h.boxes.length + 1)) 0 ∧ v.get 3 = .ptr (.box (h.boxes.length + 1 + 1)) 0 ∧ v.get 16 = .v (.int .i64 n3) ∧ v.get 19 = .ptr (.box (h6.boxes.length + 1)) 0 ∧ v.get 20 = .list tokL 5 rows ∧ v.defers = [] ∧
  PsRow tok sz l e s (pst tok sz l n e b a) ∧ Go.Pol.Rows xs rows ∧ xs.length + sizeS s ≤ 1000000001 ∧ Goes e m xa s6 xs s ∧ Lt m s ∧ CanApp h.tn h' tokL ∧ Ext h h' ∧ okHeap h' = true ∧ h'.boxes[h.boxes.length + 1]? = some (row5 0 0 0 [] .nil 0 []) ∧ h'.boxes[h.boxes.length + 1 + 1]? = some (pst .nil 0 [] 0 0 false 0) ∧ h'.boxes[h6.boxes.length + 1]? = some (pst tok sz l n e b a)) ?_ (sizeS s6) _ _ ?_
 ·rintro k v h' ⟨s, n, b, a, xs, rows, tokL, rfl, g2, g3, g16, g19, g20, hd, hp, hrw, hbnd, hG, hlt, hca, hx, hok, q1, q2, q3⟩
  obtain ⟨hA, cA, xA⟩ := rfNext kD.out kv.out hp 3 cComma (kind_sign (by decide)) h'
  have krw := Keep.mk hrw
  have kca := Keep.mk hca
  have kG := Keep.mk hG
  have hlr := hrw.1
  cases hn : nxP cComma s with
  | false =>
   rw [hn] at cA
   obtain ⟨rB, hB, cB, xB, rowB, rfl, pB⟩ := rfSign kD.out kv.out hp cClose (by decide) hA
   obtain ⟨w1, w2⟩ := kG.out.done hn n3
   have t1 := (xA.trans xB).box _ _ q1
   have t2 := (xA.trans xB).box _ _ q2
   have t3 := xA.box _ _ q3
   obtain ⟨kB, bbB, aB, rfl⟩ := pB.some_row
   have kx := Keep.mk ((((hx.trans xA).trans xB).put_new (b := h.boxes.length + 1) (by omega) (row5 3 n3 0 [] tokL 5 rows)).put_new (b := h.boxes.length + 1 + 1) (by omega) (pst tok sz l kB e bbB aB))
   have krow := Keep.mk (row_list (k := 3) (n := n3) (no := 0) (s := []) (l := xs) (tok := tokL) (sz := 5) hrw (fun _ _ => rfl) (by omega))
   have kw1 := Keep.mk w1
   have kw2 := Keep.mk w2
   have kpB := Keep.mk pB
   simp only [cComma] at cA
   simp only [cClose] at cB
   have mB1 := (List.getElem?_eq_some_iff.1 t1).1
   have mB2 := (List.getElem?_eq_some_iff.1 t2).1
   have y1 : ((hB.put (h.boxes.length + 1) (row5 3 n3 0 [] tokL 5 rows)).put (h.boxes.length + 1 + 1) (pst tok sz l kB e bbB aB)).boxes[h.boxes.length + 1]? = some (row5 3 n3 0 [] tokL 5 rows) := by rw [put_other (by omega)]; exact put_this mB1
   have y2 : ((hB.put (h.boxes.length + 1) (row5 3 n3 0 [] tokL 5 rows)).put (h.boxes.length + 1 + 1) (pst tok sz l kB e bbB aB)).boxes[h.boxes.length + 1 + 1]? = some (pst tok sz l kB e bbB aB) := put_this (by rw [put_len]; exact mB2)
   clear hp hrw hbnd hG hlt hca hx hok xA xB w1 w2 pB hn hlr
   repeat' (first | simp (config := { maxSteps := 4000000 }) (disch := first | exact dZ | fail) only [goS, plainEv, resultsEv, resultListEv, reduceIte, Nat.reduceEqDiff, goT, beq_self_eq_true, goH, goU, rs137, pss, ld70, ld26, st70, st26, bxg, put_push_eq, put_push_ne, push_len, *] | (refine dX ?_ ?_ <;> (intro _; try (exfalso; omega))) | (refine dY ?_ ?_ <;> intro _) | fail)
   exact ⟨_, _, rfl, kx.out, _, _, _, rfl, kw1.out ▸ kpB.out, ⟨_, rfl, krow.out⟩, kw2.out⟩
  | true =>
   rw [hn] at cA
   have hsz := sizeS_nx hn
   obtain ⟨rB, hB, cB, xB, rowB, rfl, pB⟩ := rfSign kD.out kv.out hp cComma (by decide) hA
   obtain ⟨rC, hC, cC, xC, vC, rowC, xc, rfl, pC, ⟨rc, rfl, hxc⟩, qC⟩ := rfWhole kE.out pB (hlt.step (e := e) fun r u q w => Nat.le_of_lt (want_lt cComma r u q w)) hB ((xA.trans xB).ok hok)
   obtain ⟨hless, hG2⟩ := kG.out.next hn qC
   have hlt2 := (hlt.step (e := e) (P := wantT cComma) fun r u q w => Nat.le_of_lt (want_lt cComma r u q w)).step (e := e) (expr_le (m := m))
   obtain ⟨tkc, szc, rwc, rfl, -⟩ := Row.five hxc
   obtain ⟨kB, bbB, aB, rfl⟩ := pB.some_row
   obtain ⟨kC, bbC, aC, rfl⟩ := pC.some_row
   have X := ((xA.trans xB).trans xC)
   have t1 := X.box _ _ q1
   have t2 := X.box _ _ q2
   have t3 := X.box _ _ q3
   have t4 := xA.box _ _ q3
   have X2 := (X.trans (.push _ (row5 xc.kind xc.n xc.no xc.name tkc szc rwc))).trans (.push _ (pst tok sz l kC e bbC aC))
   have ca2 := kca.out.ext X2
   have happ := app_exs (k' := .tight) (rows := rows) (new := [row5 xc.kind xc.n xc.no xc.name tkc szc rwc]) (ca2.mono (Nat.zero_le _)) (.inl rfl) (by simp only [List.length_cons, List.length_nil]; omega) (by simp)
   have m1 := (List.getElem?_eq_some_iff.1 t1).1
   have m2 := (List.getElem?_eq_some_iff.1 t2).1
   have m3 := (List.getElem?_eq_some_iff.1 t3).1
   have kca2 := Keep.mk ca2
   have kX2 := Keep.mk (hx.trans X2)
   have kok2 := Keep.mk (X2.ok hok)
   have krw2 := Keep.mk (hrw.snoc hxc)
   have kG2 := Keep.mk hG2
   have kl2 := Keep.mk hlt2
   have kpC := Keep.mk pC
   have kless := Keep.mk hless
   simp only [cComma] at cA cB
   clear hp hrw hG hlt hca hx hok xA xB xC pB pC hxc qC X X2 ca2 hG2 hlt2 hn
   repeat' (first | simp (config := { maxSteps := 4000000 }) (disch := first | exact dZ | fail) only [goS, plainEv, resultsEv, resultListEv, reduceIte, Nat.reduceEqDiff, goT, beq_self_eq_true, goH, goU, rs137, pss, ld70, ld26, st70, st26, build24, put_push_eq, put_push_ne, push_len, *] | (refine dX ?_ ?_ <;> (intro _; try (exfalso; omega))) | (refine dY ?_ ?_ <;> intro _) | fail)
   refine ⟨_, kless.out, _, kC, bbC, aC, xs ++ [xc], rows ++ [row5 xc.kind xc.n xc.no xc.name tkc szc rwc], .free _, rfl, (by first | trivial | (simp; done) | (simp; omega)), (by first | trivial | (simp; done) | (simp; omega)), (by first | trivial | (simp; done) | (simp; omega)), (by first | trivial | (simp; done) | (simp; omega)), (by first | trivial | (simp; done) | (simp; omega)), (by first | trivial | (simp; done) | (simp; omega)), kpC.out, krw2.out, ?_, kG2.out, kl2.out, ?_, ?_, ?_, ?_, ?_, ?_⟩
   ·have := kless.out
    rw [List.length_append]
    simp only [List.length_cons, List.length_nil]
    omega
   ·exact kca2.out.next kok2.out kX2.out.tn
   ·exact (kX2.out.app kca2.out).put_new (by omega) _
   ·exact (Mut.app (b := 0) kca2.out).ok kok2.out
   ·rw [put_other (by omega), app_boxes]; exact push_old (push_old t1)
   ·rw [put_other (by omega), app_boxes]; exact push_old (push_old t2)
   ·exact put_this (by rw [app_boxes, push_len, push_len]; omega)
 ·refine ⟨s6, k6, bb6, a6, [xa], [row5 xa.kind xa.n xa.no xa.name tka sza rwa], .tight, rfl, (by first | trivial | (simp; done) | (simp; omega)), (by first | trivial | (simp; done) | (simp; omega)), (by first | trivial | (simp; done) | (simp; omega)), (by first | trivial | (simp; done) | (simp; omega)), (by first | trivial | (simp; done) | (simp; omega)), (by first | trivial | (simp; done) | (simp; omega)), kp6.out, Go.Pol.Rows.nil.snoc kxa.out, ?_, kG0.out, kl6.out, .inr (.inl rfl), kX6.out, kX6.out.ok ko.out, push_old (push_old e2), push_old (push_old e3), ?_⟩
  ·simp only [List.length_cons, List.length_nil]
   omega
  ·have := push_last (h6.push (row5 xa.kind xa.n xa.no xa.name tka sza rwa)) (pst tok sz l k6 e bb6 a6)
   rw [push_len] at this
   exact this
end
end Go.Proofs.YtmdakolcndpjeaaGreatDoor
end

section
namespace Go.Proofs.YtmdakolcndpjeaaGreatDoor
open Go.AE Go.Lex Go.Pol Go.Syn
theorem rfExpr {tok : Tok} {sz : Nat} {l : List Tk} {e : Int} (D : Rd0 tok sz l) (hv : Valid l) : ∀ m, RX tok sz l e m
 | 0 => fun r row h hr hl => absurd hl (Nat.not_lt_zero _)
 | m + 1 => fun r row h hr hl ho => by
  have E := rfExpr D hv m (e := e)
  cases h1 : isT kSome r with
  | true => exact rfSomeX D hv hr h1 h
  | false =>
   cases h2 : isT kWeight r with
   | true => exact rfWeightX D hv hr h1 h2 h
   | false =>
    cases h3 : isT kUpto r with
    | true => exact rfUptoX E D hv hr hl h1 h2 h3 h ho
    | false => exact rfGateX E D hv hr hl h1 h2 h3 h ho
end Go.Proofs.YtmdakolcndpjeaaGreatDoor
end
