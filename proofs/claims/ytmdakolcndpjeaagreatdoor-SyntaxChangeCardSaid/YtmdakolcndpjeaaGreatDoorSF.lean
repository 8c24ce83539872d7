/-
 Part of the proof: SF.
-/
import Derived.Test.YtmdakolcndpjeaaGreatDoorSE
import Derived.Test.YtmdakolcndpjeaaGreatDoorE4
set_option maxHeartbeats 64000000
set_option maxRecDepth 100000
set_option linter.unusedSimpArgs false
set_option linter.unusedVariables false
set_option linter.constructorNameAsVariable false
section
namespace Go.Proofs.YtmdakolcndpjeaaGreatDoor
open Go.AE Go.Lex Go.Pol Go.Syn
theorem st109 (r : Ref) (o : Nat) : (AV.ptr r o).cellsO = some [.ptr r o] := rfl
theorem same_ptr (b : Nat) : sameAV (.ptr (.box b) 0) (.ptr (.box b) 0) = true := by simp [sameAV, sameRef]
structure At (b n0 : Nat) (h h' : Heap) (x : List AV) : Prop where
 mu : Mut b n0 h h'
 ptr : h'.boxes[h.boxes.length]? = some [.ptr (.box b) 0]
 res : h'.boxes[h.boxes.length + 1]? = some x
 lt : b < h.boxes.length
section
variable {b n0 : Nat} {h h' h2 : Heap} {x y : List AV}
theorem At.start (hb : b < h.boxes.length) (x : List AV) : At b n0 h ((h.push [.ptr (.box b) 0]).push x) x :=
 ⟨((Mut.refl b n0 h).push _).push _, push_old (push_last _ _), by have := push_last (h.push [.ptr (.box b) 0]) x; rw [push_len] at this; exact this, hb⟩
theorem At.call (a : At b n0 h h' x) (m : Mut b n0 h' h2) : At b n0 h h2 x :=
 ⟨a.mu.trans m, m.box _ _ (by have := a.lt; omega) a.ptr, m.box _ _ (by have := a.lt; omega) a.res, a.lt⟩
theorem At.len (a : At b n0 h h' x) : h.boxes.length + 1 < h'.boxes.length := (List.getElem?_eq_some_iff.1 a.res).1
theorem At.len0 (a : At b n0 h h' x) : h.boxes.length < h'.boxes.length := (List.getElem?_eq_some_iff.1 a.ptr).1
theorem At.set (a : At b n0 h h' x) (y : List AV) : At b n0 h (h'.put (h.boxes.length + 1) y) y :=
 ⟨a.mu.put_new (by omega) y, by rw [put_other (by omega)]; exact a.ptr, put_this a.len, a.lt⟩
end
section
variable {b : Nat} {tok : Tok} {sz : Nat} {l : List Tk} {n : Int} {p : Po} {t : PT} {h : Heap}
theorem exprP_some {m : Nat} (hi : isT kSome l = true) : exprP (m + 1) l = (nameP l.tail).bind fun s r => .ok (.mk 1 0 0 s []) r := by
 conv => lhs; unfold exprP
 rw [if_pos hi]
theorem exprP_weight {m : Nat} (h1 : isT kSome l = false) (hi : isT kWeight l = true) : exprP (m + 1) l = (numP l.tail).bind fun n r => (wantT kOf r).bind fun _ r => (nameP r).bind fun s r => .ok (.mk 2 n 0 s []) r := by
 conv => lhs; unfold exprP
 rw [h1, if_neg (by decide), if_pos hi]
theorem exprP_upto {m : Nat} (h1 : isT kSome l = false) (h2 : isT kWeight l = false) (hi : isT kUpto l = true) : exprP (m + 1) l = (numP l.tail).bind fun n r => (inP (exprP m) r).bind fun a r => (wantT kElse r).bind fun _ r => (inP (exprP m) r).bind fun b r => .ok (.mk 4 n 0 [] [a, b]) r := by
 conv => lhs; unfold exprP
 rw [h1, h2, if_neg (by decide), if_neg (by decide), if_pos hi]
theorem exprP_of {m : Nat} (h1 : isT kSome l = false) (h2 : isT kWeight l = false) (h3 : isT kUpto l = false) : exprP (m + 1) l = (numP l).bind fun n r => (wantP [kOf, cOpen] r).bind fun _ r => (exprP m r).bind fun a r => (someP cComma (nextP (exprP m)) (m + 1) r).bind fun t r => (wantT cClose r).bind fun _ r => .ok (.mk 3 n 0 [] (a :: t)) r := by
 conv => lhs; unfold exprP
 rw [h1, h2, h3, if_neg (by decide), if_neg (by decide), if_neg (by decide)]
theorem expr_some {m : Nat} (n0 : Nat) (P : Pa b tok sz l n p t h) (hi : isT kSome l = true) : Reads 132 [.ptr (.box b) 0] b n0 n p t h encE (exprP (m + 1) l) := by
 have a26 := ag26; have s26 := sz26; have z26 := zc26; have a109 := ag109; have s109 := sz109
 have A0 := At.start (n0 := n0) P.lt (row5 0 0 0 [] .nil 0 [])
 have P0 := (P.push [.ptr (.box b) 0]).push (row5 0 0 0 [] .nil 0 [])
 rw [exprP_some hi]
 cases l with
 | nil => cases hi
 | cons x r =>
  have c1 := take_yes P0 hi
  have P1 := P0.next (tok' := cutTok tok true false r.length)
  have A1 := A0.call (.put b n0 _ (par (cutTok tok true false r.length) 4 r n p t))
  obtain ⟨r2, h2, c2, q2⟩ := name_ev2 n0 P1
  simp only [kSome] at c1
  rw [List.tail_cons]
  have l0 := A0.len; have l00 := A0.len0; have p0 := A0.ptr; have x0 := A0.res; have l1 := A1.len; have p1 := A1.ptr
  cases w2 : nameP r with
  | bad l2 =>
   rw [w2] at q2
   obtain ⟨rfl, m2⟩ := q2
   have kfin := Keep.mk (A1.call m2).mu
   clear A0 A1 P0 P1 P m2
   refine call_post rfl Tryz.func132 rfl ?_
   repeat' (first | simp (config := { maxSteps := 4000000 }) (disch := first | exact dZ | fail) only [goS, append_gt, append_gt_yes, plainEv, resultsEv, resultListEv, reduceIte, Nat.reduceEqDiff, goT, beq_self_eq_true, goH, goU, rs132, push_len, cell_one, st109, *] | (refine dX ?_ ?_ <;> (intro _; try (exfalso; omega))) | (refine dY ?_ ?_ <;> intro _) | fail)
   exact ⟨_, _, rfl, rfl, kfin.out⟩
  | ok s l2 =>
   rw [w2] at q2
   obtain ⟨v2, tok2, sz2, rfl, rfl, m2, P2⟩ := q2
   have A2 := A1.call m2
   have A3 := A2.set (row5 1 0 0 s .nil 0 [])
   have l2' := A2.len; have x2 := A2.res; have x3 := A3.res
   have kfin := Keep.mk A3.mu
   have kP := Keep.mk (P2.put (c := h.boxes.length + 1) (by have := A0.lt; omega) (row5 1 0 0 s .nil 0 []))
   clear A0 A1 A2 A3 P0 P1 P2 P m2
   refine call_post rfl Tryz.func132 rfl ?_
   repeat' (first | simp (config := { maxSteps := 4000000 }) (disch := first | exact dZ | fail) only [goS, append_gt, append_gt_yes, plainEv, resultsEv, resultListEv, reduceIte, Nat.reduceEqDiff, goT, beq_self_eq_true, goH, goU, rs132, push_len, cell_one, st109, bx1, st26, ld26, *] | (refine dX ?_ ?_ <;> (intro _; try (exfalso; omega))) | (refine dY ?_ ?_ <;> intro _) | fail)
   exact ⟨_, _, rfl, _, _, _, rfl, ⟨_, _, _, rfl, row_leaf 1 0 0 s⟩, kfin.out, kP.out⟩
end
end Go.Proofs.YtmdakolcndpjeaaGreatDoor
end

section
namespace Go.Proofs.YtmdakolcndpjeaaGreatDoor
open Go.AE Go.Lex Go.Pol Go.Syn
section
variable {b : Nat} {tok : Tok} {sz : Nat} {l : List Tk} {n : Int} {p : Po} {t : PT} {h : Heap}
theorem expr_weight {m : Nat} (n0 : Nat) (P : Pa b tok sz l n p t h) (h1 : isT kSome l = false) (hi : isT kWeight l = true) : Reads 132 [.ptr (.box b) 0] b n0 n p t h encE (exprP (m + 1) l) := by
 have a26 := ag26; have s26 := sz26; have z26 := zc26; have a109 := ag109; have s109 := sz109
 have A0 := At.start (n0 := n0) P.lt (row5 0 0 0 [] .nil 0 [])
 have P0 := (P.push [.ptr (.box b) 0]).push (row5 0 0 0 [] .nil 0 [])
 rw [exprP_weight h1 hi]
 have c0 := take_no P0 h1
 have bwo := bw1 kOf
 simp only [kOf] at bwo
 cases l with
 | nil => cases hi
 | cons x r =>
  have c1 := take_yes P0 hi
  have P1 := P0.next (tok' := cutTok tok true false r.length)
  have A1 := A0.call (.put b n0 _ (par (cutTok tok true false r.length) 4 r n p t))
  obtain ⟨r2, h2, c2, q2⟩ := number_ev n0 P1
  simp only [kSome] at c0
  simp only [kWeight] at c1
  rw [List.tail_cons]
  have l0 := A0.len; have l00 := A0.len0; have p0 := A0.ptr; have x0 := A0.res; have l1 := A1.len; have p1 := A1.ptr
  cases w2 : numP r with
  | bad l2 =>
   rw [w2] at q2
   obtain ⟨rfl, m2⟩ := q2
   have kfin := Keep.mk (A1.call m2).mu
   clear A0 A1 P0 P1 P m2
   refine call_post rfl Tryz.func132 rfl ?_
   repeat' (first | simp (config := { maxSteps := 4000000 }) (disch := first | exact dZ | fail) only [goS, append_gt, append_gt_yes, plainEv, resultsEv, resultListEv, reduceIte, Nat.reduceEqDiff, goT, beq_self_eq_true, goH, goU, rs132, push_len, cell_one, st109, *] | (refine dX ?_ ?_ <;> (intro _; try (exfalso; omega))) | (refine dY ?_ ?_ <;> intro _) | fail)
   exact ⟨_, _, rfl, rfl, kfin.out⟩
  | ok d l2 =>
   rw [w2] at q2
   obtain ⟨v2, tok2, sz2, rfl, rfl, m2, P2⟩ := q2
   have A2 := A1.call m2
   have A3 := A2.set (row5 2 d 0 [] .nil 0 [])
   have P3 := P2.put (c := h.boxes.length + 1) (by have := A0.lt; omega) (row5 2 d 0 [] .nil 0 [])
   obtain ⟨r4, h4, c4, q4⟩ := want1_ev n0 .tight kOf P3
   simp only [kOf] at c4
   have l2' := A2.len; have l20 := A2.len0; have x2 := A2.res; have p2 := A2.ptr; have p3 := A3.ptr
   rw [bind_ok]
   cases w4 : wantT kOf l2 with
   | bad l4 =>
    rw [w4] at q4
    obtain ⟨rfl, m4⟩ := q4
    have kfin := Keep.mk (A3.call m4).mu
    clear A0 A1 A2 A3 P0 P1 P2 P3 P m2 m4
    refine call_post rfl Tryz.func132 rfl ?_
    repeat' (first | simp (config := { maxSteps := 4000000 }) (disch := first | exact dZ | fail) only [goS, append_gt, append_gt_yes, plainEv, resultsEv, resultListEv, reduceIte, Nat.reduceEqDiff, goT, beq_self_eq_true, goH, goU, rs132, push_len, cell_one, st109, bx2, st26, *] | (refine dX ?_ ?_ <;> (intro _; try (exfalso; omega))) | (refine dY ?_ ?_ <;> intro _) | fail)
    exact ⟨_, _, rfl, rfl, kfin.out⟩
   | ok u4 l4 =>
    rw [w4] at q4
    obtain ⟨v4, tok4, sz4, rfl, rfl, m4, P4⟩ := q4
    have A4 := A3.call m4
    obtain ⟨r5, h5, c5, q5⟩ := name_ev2 n0 P4
    have p4 := A4.ptr
    rw [bind_ok]
    cases w5 : nameP l4 with
    | bad l5 =>
     rw [w5] at q5
     obtain ⟨rfl, m5⟩ := q5
     have kfin := Keep.mk (A4.call m5).mu
     clear A0 A1 A2 A3 A4 P0 P1 P2 P3 P4 P m2 m4 m5
     refine call_post rfl Tryz.func132 rfl ?_
     repeat' (first | simp (config := { maxSteps := 4000000 }) (disch := first | exact dZ | fail) only [goS, append_gt, append_gt_yes, plainEv, resultsEv, resultListEv, reduceIte, Nat.reduceEqDiff, goT, beq_self_eq_true, goH, goU, rs132, push_len, cell_one, st109, bx2, st26, *] | (refine dX ?_ ?_ <;> (intro _; try (exfalso; omega))) | (refine dY ?_ ?_ <;> intro _) | fail)
     exact ⟨_, _, rfl, rfl, kfin.out⟩
    | ok s l5 =>
     rw [w5] at q5
     obtain ⟨v5, tok5, sz5, rfl, rfl, m5, P5⟩ := q5
     have A5 := A4.call m5
     have A6 := A5.set (row5 2 d 0 s .nil 0 [])
     have l5' := A5.len; have x5 := A5.res; have x6 := A6.res
     have kfin := Keep.mk A6.mu
     have kP := Keep.mk (P5.put (c := h.boxes.length + 1) (by have := A0.lt; omega) (row5 2 d 0 s .nil 0 []))
     clear A0 A1 A2 A3 A4 A5 A6 P0 P1 P2 P3 P4 P5 P m2 m4 m5
     refine call_post rfl Tryz.func132 rfl ?_
     repeat' (first | simp (config := { maxSteps := 4000000 }) (disch := first | exact dZ | fail) only [goS, append_gt, append_gt_yes, plainEv, resultsEv, resultListEv, reduceIte, Nat.reduceEqDiff, goT, beq_self_eq_true, goH, goU, rs132, push_len, cell_one, st109, bx2, st26, st26_3, ld26, fa26_3, put_put, *] | (refine dX ?_ ?_ <;> (intro _; try (exfalso; omega))) | (refine dY ?_ ?_ <;> intro _) | fail)
     exact ⟨_, _, rfl, _, _, _, rfl, ⟨_, _, _, rfl, row_leaf 2 d 0 s⟩, kfin.out, kP.out⟩
end
end Go.Proofs.YtmdakolcndpjeaaGreatDoor
end

section
namespace Go.Proofs.YtmdakolcndpjeaaGreatDoor
open Go.AE Go.Lex Go.Pol Go.Syn
theorem row5_4' (k n no : Int) (s : List UInt8) (tok : Tok) (sz : Nat) (rows : List (List AV)) : ((row5 k n no s tok sz rows).drop 4).head? = some (.list tok sz rows) := rfl
theorem same_rowsE {l : List Ex} {rows : List (List AV)} (hr : Go.Pol.Rows l rows) : sameRows rows rows = true := sameRows_of fun r hr' => by
 obtain ⟨i, hi, rfl⟩ := List.mem_iff_getElem.1 hr'
 exact Row.same _ _ (hr.2 i _ _ (List.getElem?_eq_getElem (by have := hr.1; omega)) (List.getElem?_eq_getElem hi))
theorem same_listE {l : List Ex} {rows : List (List AV)} (hr : Go.Pol.Rows l rows) (tok : Tok) (sz : Nat) : sameAV (.list tok sz rows) (.list tok sz rows) = true := by simp [sameAV, sameTok_refl, same_rowsE hr]
theorem rows_one {x : Ex} {tok : Tok} {sz : Nat} {rows : List (List AV)} (h : Row x (row5 x.kind x.n x.no x.name tok sz rows)) : Go.Pol.Rows [x] [row5 x.kind x.n x.no x.name tok sz rows] := Go.Pol.Rows.nil.snoc h
section
variable {b : Nat} {tok : Tok} {sz : Nat} {l : List Tk} {n : Int} {p : Po} {t : PT} {h : Heap}
theorem expr_upto {m : Nat} (E : ReadsE m) (n0 : Nat) (P : Pa b tok sz l n p t h) (ho : okHeap h = true) (hn : n0 ≤ h.tn) (hl : l.length ≤ m) (h1 : isT kSome l = false) (h2 : isT kWeight l = false) (hi : isT kUpto l = true) : Reads 132 [.ptr (.box b) 0] b n0 n p t h encE (exprP (m + 1) l) := by
 have a26 := ag26; have s26 := sz26; have z26 := zc26; have a109 := ag109; have s109 := sz109; have a24 := ag24; have s24 := sz24
 have A0 := At.start (n0 := n0) P.lt (row5 0 0 0 [] .nil 0 [])
 have P0 := (P.push [.ptr (.box b) 0]).push (row5 0 0 0 [] .nil 0 [])
 rw [exprP_upto h1 h2 hi]
 have c0 := take_no P0 h1
 have c01 := take_no P0 h2
 have bwe := bw1 kElse
 simp only [kElse] at bwe
 cases l with
 | nil => cases hi
 | cons x r =>
  rw [List.length_cons] at hl
  have c1 := take_yes P0 hi
  have P1 := P0.next (tok' := cutTok tok true false r.length)
  have A1 := A0.call (.put b n0 _ (par (cutTok tok true false r.length) 4 r n p t))
  obtain ⟨r2, h2, c2, q2⟩ := number_ev n0 P1
  simp only [kSome] at c0
  simp only [kWeight] at c01
  simp only [kUpto] at c1
  rw [List.tail_cons]
  have l0 := A0.len; have l00 := A0.len0; have p0 := A0.ptr; have x0 := A0.res; have l1 := A1.len; have p1 := A1.ptr; have l10 := A1.len0
  cases w2 : numP r with
  | bad l2 =>
   rw [w2] at q2
   obtain ⟨rfl, m2⟩ := q2
   have kfin := Keep.mk (A1.call m2).mu
   have kE := Keep.mk E
   clear A0 A1 P0 P1 P m2 E
   refine call_post rfl Tryz.func132 rfl ?_
   repeat' (first | simp (config := { maxSteps := 4000000 }) (disch := first | exact dZ | fail) only [goS, append_gt, append_gt_yes, plainEv, resultsEv, resultListEv, reduceIte, Nat.reduceEqDiff, goT, beq_self_eq_true, goH, goU, rs132, push_len, cell_one, st109, bx4, st26, st26_4, ld26, fa26_4, put_put, row5_4', build24, List.cons_append, List.nil_append, *] | (refine dX ?_ ?_ <;> (intro _; try (exfalso; omega))) | (refine dY ?_ ?_ <;> intro _) | fail)
   refine run_draw_mid 1 [2] (by kernel_rfl) (by kernel_rfl) (by kernel_rfl) ?_
   repeat' (first | simp (config := { maxSteps := 4000000 }) (disch := first | exact dZ | fail) only [goS, append_gt, append_gt_yes, plainEv, resultsEv, resultListEv, reduceIte, Nat.reduceEqDiff, goT, beq_self_eq_true, goH, goU, rs132, push_len, cell_one, st109, bx4, st26, st26_4, ld26, fa26_4, put_put, row5_4', build24, List.cons_append, List.nil_append, List.take_succ_cons, List.take_zero, List.drop_succ_cons, List.drop_zero, List.head?_cons, List.filterMap_cons, List.filterMap_nil, midQ_normal, panQ_panic, normQ_normal, dim_defers, dim_pan, and_true, true_and, *] | (refine dX ?_ ?_ <;> (intro _; try (exfalso; omega))) | (refine dY ?_ ?_ <;> intro _) | fail)
   exact ⟨_, _, rfl, rfl, kfin.out⟩
  | ok d l2 =>
   rw [w2] at q2
   obtain ⟨v2, tok2, sz2, rfl, rfl, m2, P2⟩ := q2
   have A2 := A1.call m2
   have hl2 : l2.length < r.length := by have := num_len w2; omega
   obtain ⟨r3, h3, c3, q3⟩ := inside_ev E n0 P2 (A2.mu.ok ho) (Nat.le_trans hn A2.mu.tn) (by omega)
   have l2' := A2.len; have l20 := A2.len0; have x2 := A2.res; have p2 := A2.ptr
   rw [bind_ok]
   cases w3 : inP (exprP m) l2 with
   | bad l3 =>
    rw [w3] at q3
    obtain ⟨rfl, m3⟩ := q3
    have kfin := Keep.mk (A2.call m3).mu
    clear A0 A1 A2 P0 P1 P2 P m2 m3 E
    refine call_post rfl Tryz.func132 rfl ?_
    repeat' (first | simp (config := { maxSteps := 4000000 }) (disch := first | exact dZ | fail) only [goS, append_gt, append_gt_yes, plainEv, resultsEv, resultListEv, reduceIte, Nat.reduceEqDiff, goT, beq_self_eq_true, goH, goU, rs132, push_len, cell_one, st109, bx4, st26, st26_4, ld26, fa26_4, put_put, row5_4', build24, List.cons_append, List.nil_append, *] | (refine dX ?_ ?_ <;> (intro _; try (exfalso; omega))) | (refine dY ?_ ?_ <;> intro _) | fail)
    refine run_mid_but 3 [] [(1, 2)] (by kernel_rfl) (by kernel_rfl) (by kernel_rfl) (by kernel_rfl) ?_ ?_
    ·intro pr hp
     simp only [List.mem_singleton] at hp
     subst hp
     refine stable_behind (x := .ptr (.box h.boxes.length) 0) (v := .ptr (.box b) 0) (by kernel_rfl) rfl rfl rfl (by kernel_rfl) (same_ptr b) ?_ ?_
     ·simp only [List.take_succ_cons, List.take_zero]
      repeat' (first | simp (config := { maxSteps := 4000000 }) (disch := first | exact dZ | fail) only [goS, append_gt, append_gt_yes, plainEv, resultsEv, resultListEv, reduceIte, Nat.reduceEqDiff, goT, beq_self_eq_true, goH, goU, rs132, push_len, cell_one, st109, bx4, st26, st26_4, ld26, fa26_4, put_put, row5_4', build24, List.cons_append, List.nil_append, *] | (refine dX ?_ ?_ <;> (intro _; try (exfalso; omega))) | (refine dY ?_ ?_ <;> intro _) | fail)
      exact ⟨by trivial, by trivial, by trivial⟩
     ·simp only [List.take_succ_cons, List.take_zero]
      repeat' (first | simp (config := { maxSteps := 4000000 }) (disch := first | exact dZ | fail) only [goS, append_gt, append_gt_yes, plainEv, resultsEv, resultListEv, reduceIte, Nat.reduceEqDiff, goT, beq_self_eq_true, goH, goU, rs132, push_len, cell_one, st109, bx4, st26, st26_4, ld26, fa26_4, put_put, row5_4', build24, List.cons_append, List.nil_append, *] | (refine dX ?_ ?_ <;> (intro _; try (exfalso; omega))) | (refine dY ?_ ?_ <;> intro _) | fail)
      exact ⟨by trivial, by trivial⟩
    repeat' (first | simp (config := { maxSteps := 4000000 }) (disch := first | exact dZ | fail) only [goS, append_gt, append_gt_yes, plainEv, resultsEv, resultListEv, reduceIte, Nat.reduceEqDiff, goT, beq_self_eq_true, goH, goU, rs132, push_len, cell_one, st109, bx4, st26, st26_4, ld26, fa26_4, put_put, row5_4', build24, List.cons_append, List.nil_append, List.take_succ_cons, List.take_zero, List.drop_succ_cons, List.drop_zero, List.head?_cons, List.filterMap_cons, List.filterMap_nil, midQ_normal, panQ_panic, normQ_normal, dim_defers, dim_pan, and_true, true_and, *] | (refine dX ?_ ?_ <;> (intro _; try (exfalso; omega))) | (refine dY ?_ ?_ <;> intro _) | fail)
    exact ⟨_, _, rfl, rfl, kfin.out⟩
   | ok xa l3 =>
    rw [w3] at q3
    obtain ⟨v3, tok3, sz3, rfl, ⟨tka, sza, rowsa, rfl, hra⟩, m3, P3⟩ := q3
    have A3 := A2.call m3
    have A4 := A3.set (row5 4 d 0 [] .tight 5 [row5 xa.kind xa.n xa.no xa.name tka sza rowsa])
    have P4 := P3.put (c := h.boxes.length + 1) (by have := A0.lt; omega) (row5 4 d 0 [] .tight 5 [row5 xa.kind xa.n xa.no xa.name tka sza rowsa])
    have hl3 : l3.length ≤ l2.length := by
     have := (nice_in (nice_expr m)).len l2
     rw [w3] at this; exact this
    obtain ⟨r5, h5, c5, q5⟩ := want1_ev n0 .tight kElse P4
    simp only [kElse] at c5
    have l3' := A3.len; have l30 := A3.len0; have x3 := A3.res; have p3 := A3.ptr; have p4 := A4.ptr
    rw [bind_ok]
    cases w5 : wantT kElse l3 with
    | bad l5 =>
     rw [w5] at q5
     obtain ⟨rfl, m5⟩ := q5
     have kfin := Keep.mk (A4.call m5).mu
     clear A0 A1 A2 A3 A4 P0 P1 P2 P3 P4 P m2 m3 m5 E hra
     refine call_post rfl Tryz.func132 rfl ?_
     repeat' (first | simp (config := { maxSteps := 4000000 }) (disch := first | exact dZ | fail) only [goS, append_gt, append_gt_yes, plainEv, resultsEv, resultListEv, reduceIte, Nat.reduceEqDiff, goT, beq_self_eq_true, goH, goU, rs132, push_len, cell_one, st109, bx4, st26, st26_4, ld26, fa26_4, put_put, row5_4', build24, List.cons_append, List.nil_append, *] | (refine dX ?_ ?_ <;> (intro _; try (exfalso; omega))) | (refine dY ?_ ?_ <;> intro _) | fail)
     refine run_draw_but [(1, 2)] (by kernel_rfl) ?_ ?_
     ·intro pr hp
      simp only [List.mem_singleton] at hp
      subst hp
      refine stable_behind (x := .ptr (.box h.boxes.length) 0) (v := .ptr (.box b) 0) (by kernel_rfl) rfl rfl rfl (by kernel_rfl) (same_ptr b) ?_ ?_
      ·simp only [List.take_succ_cons, List.take_zero]
       repeat' (first | simp (config := { maxSteps := 4000000 }) (disch := first | exact dZ | fail) only [goS, append_gt, append_gt_yes, plainEv, resultsEv, resultListEv, reduceIte, Nat.reduceEqDiff, goT, beq_self_eq_true, goH, goU, rs132, push_len, cell_one, st109, bx4, st26, st26_4, ld26, fa26_4, put_put, row5_4', build24, List.cons_append, List.nil_append, *] | (refine dX ?_ ?_ <;> (intro _; try (exfalso; omega))) | (refine dY ?_ ?_ <;> intro _) | fail)
       exact ⟨by trivial, by trivial, by trivial⟩
      ·simp only [List.take_succ_cons, List.take_zero]
       repeat' (first | simp (config := { maxSteps := 4000000 }) (disch := first | exact dZ | fail) only [goS, append_gt, append_gt_yes, plainEv, resultsEv, resultListEv, reduceIte, Nat.reduceEqDiff, goT, beq_self_eq_true, goH, goU, rs132, push_len, cell_one, st109, bx4, st26, st26_4, ld26, fa26_4, put_put, row5_4', build24, List.cons_append, List.nil_append, *] | (refine dX ?_ ?_ <;> (intro _; try (exfalso; omega))) | (refine dY ?_ ?_ <;> intro _) | fail)
       exact ⟨by trivial, by trivial⟩
     ·repeat' (first | simp (config := { maxSteps := 4000000 }) (disch := first | exact dZ | fail) only [goS, append_gt, append_gt_yes, plainEv, resultsEv, resultListEv, reduceIte, Nat.reduceEqDiff, goT, beq_self_eq_true, goH, goU, rs132, push_len, cell_one, st109, bx4, st26, st26_4, ld26, fa26_4, put_put, row5_4', build24, List.cons_append, List.nil_append, *] | (refine dX ?_ ?_ <;> (intro _; try (exfalso; omega))) | (refine dY ?_ ?_ <;> intro _) | fail)
      exact ⟨_, _, rfl, rfl, kfin.out⟩
    | ok u5 l5 =>
     rw [w5] at q5
     obtain ⟨v5, tok5, sz5, rfl, rfl, m5, P5⟩ := q5
     have A5 := A4.call m5
     have hl5 : l5.length < l3.length := by have := want_len w5; omega
     obtain ⟨r6, h6, c6, q6⟩ := inside_ev E n0 P5 (A5.mu.ok ho) (Nat.le_trans hn A5.mu.tn) (by omega)
     have l5' := A5.len; have l50 := A5.len0; have x5 := A5.res; have p5 := A5.ptr
     have hr1 := rows_one hra
     rw [bind_ok]
     cases w6 : inP (exprP m) l5 with
     | bad l6 =>
      rw [w6] at q6
      obtain ⟨rfl, m6⟩ := q6
      have kfin := Keep.mk (A5.call m6).mu
      clear A0 A1 A2 A3 A4 A5 P0 P1 P2 P3 P4 P5 P m2 m3 m5 m6 E hra hr1
      refine call_post rfl Tryz.func132 rfl ?_
      repeat' (first | simp (config := { maxSteps := 4000000 }) (disch := first | exact dZ | fail) only [goS, append_gt, append_gt_yes, plainEv, resultsEv, resultListEv, reduceIte, Nat.reduceEqDiff, goT, beq_self_eq_true, goH, goU, rs132, push_len, cell_one, st109, bx4, st26, st26_4, ld26, fa26_4, put_put, row5_4', build24, List.cons_append, List.nil_append, *] | (refine dX ?_ ?_ <;> (intro _; try (exfalso; omega))) | (refine dY ?_ ?_ <;> intro _) | fail)
      refine run_draw_but [(1, 2)] (by kernel_rfl) ?_ ?_
      ·intro pr hp
       simp only [List.mem_singleton] at hp
       subst hp
       refine stable_behind (x := .ptr (.box h.boxes.length) 0) (v := .ptr (.box b) 0) (by kernel_rfl) rfl rfl rfl (by kernel_rfl) (same_ptr b) ?_ ?_
       ·simp only [List.take_succ_cons, List.take_zero]
        repeat' (first | simp (config := { maxSteps := 4000000 }) (disch := first | exact dZ | fail) only [goS, append_gt, append_gt_yes, plainEv, resultsEv, resultListEv, reduceIte, Nat.reduceEqDiff, goT, beq_self_eq_true, goH, goU, rs132, push_len, cell_one, st109, bx4, st26, st26_4, ld26, fa26_4, put_put, row5_4', build24, List.cons_append, List.nil_append, *] | (refine dX ?_ ?_ <;> (intro _; try (exfalso; omega))) | (refine dY ?_ ?_ <;> intro _) | fail)
        exact ⟨by trivial, by trivial, by trivial⟩
       ·simp only [List.take_succ_cons, List.take_zero]
        repeat' (first | simp (config := { maxSteps := 4000000 }) (disch := first | exact dZ | fail) only [goS, append_gt, append_gt_yes, plainEv, resultsEv, resultListEv, reduceIte, Nat.reduceEqDiff, goT, beq_self_eq_true, goH, goU, rs132, push_len, cell_one, st109, bx4, st26, st26_4, ld26, fa26_4, put_put, row5_4', build24, List.cons_append, List.nil_append, *] | (refine dX ?_ ?_ <;> (intro _; try (exfalso; omega))) | (refine dY ?_ ?_ <;> intro _) | fail)
        exact ⟨by trivial, by trivial⟩
      ·repeat' (first | simp (config := { maxSteps := 4000000 }) (disch := first | exact dZ | fail) only [goS, append_gt, append_gt_yes, plainEv, resultsEv, resultListEv, reduceIte, Nat.reduceEqDiff, goT, beq_self_eq_true, goH, goU, rs132, push_len, cell_one, st109, bx4, st26, st26_4, ld26, fa26_4, put_put, row5_4', build24, List.cons_append, List.nil_append, *] | (refine dX ?_ ?_ <;> (intro _; try (exfalso; omega))) | (refine dY ?_ ?_ <;> intro _) | fail)
       refine run_draw_mid 3 [] (by kernel_rfl) (by kernel_rfl) (by kernel_rfl) ?_
       repeat' (first | simp (config := { maxSteps := 4000000 }) (disch := first | exact dZ | fail) only [goS, append_gt, append_gt_yes, plainEv, resultsEv, resultListEv, reduceIte, Nat.reduceEqDiff, goT, beq_self_eq_true, goH, goU, rs132, push_len, cell_one, st109, bx4, st26, st26_4, ld26, fa26_4, put_put, row5_4', build24, List.cons_append, List.nil_append, List.take_succ_cons, List.take_zero, List.drop_succ_cons, List.drop_zero, List.head?_cons, List.filterMap_cons, List.filterMap_nil, midQ_normal, panQ_panic, normQ_normal, dim_defers, dim_pan, and_true, true_and, *] | (refine dX ?_ ?_ <;> (intro _; try (exfalso; omega))) | (refine dY ?_ ?_ <;> intro _) | fail)
       exact ⟨_, _, rfl, rfl, kfin.out⟩
     | ok xb l6 =>
      rw [w6] at q6
      obtain ⟨v6, tok6, sz6, rfl, ⟨tkb, szb, rowsb, rfl, hrb⟩, m6, P6⟩ := q6
      have A6 := A5.call m6
      have l6' := A6.len; have l60 := A6.len0; have x6 := A6.res; have p6 := A6.ptr
      have ok6 := A6.mu.ok ho
      have happ : appendEv Tryz.prog h6 #[24, 24] (.list .tight 5 [row5 xa.kind xa.n xa.no xa.name tka sza rowsa]) (.list .tight 5 [row5 xb.kind xb.n xb.no xb.name tkb szb rowsb]) = some (.list (.free h6.tn) 5 ([row5 xa.kind xa.n xa.no xa.name tka sza rowsa] ++ [row5 xb.kind xb.n xb.no xb.name tkb szb rowsb]), h6.app .tight) := app_exs (.inr (.inl rfl)) (.inl rfl) (by simp) (by simp)
      have mA : Mut b n0 h6 (h6.app .tight) := Mut.app (.inr (.inl rfl))
      have A7 := A6.call mA
      have A8 := A7.set (row5 4 d 0 [] (.free h6.tn) 5 ([row5 xa.kind xa.n xa.no xa.name tka sza rowsa] ++ [row5 xb.kind xb.n xb.no xb.name tkb szb rowsb]))
      have x7 := A7.res; have l7 := A7.len; have x8 := A8.res
      have kfin := Keep.mk A8.mu
      have kP := Keep.mk ((P6.app .tight).put (c := h.boxes.length + 1) (by have := A0.lt; omega) (row5 4 d 0 [] (.free h6.tn) 5 ([row5 xa.kind xa.n xa.no xa.name tka sza rowsa] ++ [row5 xb.kind xb.n xb.no xb.name tkb szb rowsb])))
      have krow := Keep.mk (row_list (k := 4) (n := d) (no := 0) (s := []) (l := [xa, xb]) (tok := .free h6.tn) (sz := 5) (hr1.snoc hrb) (fun _ _ => rfl) (by simp))
      have kr1 := Keep.mk hr1
      clear A0 A1 A2 A3 A4 A5 A6 A7 A8 P0 P1 P2 P3 P4 P5 P6 P m2 m3 m5 m6 mA E hra hr1 hrb
      refine call_post rfl Tryz.func132 rfl ?_
      repeat' (first | simp (config := { maxSteps := 4000000 }) (disch := first | exact dZ | fail) only [goS, append_gt, append_gt_yes, plainEv, resultsEv, resultListEv, reduceIte, Nat.reduceEqDiff, goT, beq_self_eq_true, goH, goU, rs132, push_len, cell_one, st109, bx4, st26, st26_4, ld26, fa26_4, put_put, row5_4', build24, List.cons_append, List.nil_append, *] | (refine dX ?_ ?_ <;> (intro _; try (exfalso; omega))) | (refine dY ?_ ?_ <;> intro _) | fail)
      refine run_draw_but [(1, 2)] (by kernel_rfl) ?_ ?_
      ·intro pr hp
       simp only [List.mem_singleton] at hp
       subst hp
       refine stable_behind (x := .ptr (.box h.boxes.length) 0) (v := .ptr (.box b) 0) (by kernel_rfl) rfl rfl rfl (by kernel_rfl) (same_ptr b) ?_ ?_
       ·simp only [List.take_succ_cons, List.take_zero]
        repeat' (first | simp (config := { maxSteps := 4000000 }) (disch := first | exact dZ | fail) only [goS, append_gt, append_gt_yes, plainEv, resultsEv, resultListEv, reduceIte, Nat.reduceEqDiff, goT, beq_self_eq_true, goH, goU, rs132, push_len, cell_one, st109, bx4, st26, st26_4, ld26, fa26_4, put_put, row5_4', build24, List.cons_append, List.nil_append, *] | (refine dX ?_ ?_ <;> (intro _; try (exfalso; omega))) | (refine dY ?_ ?_ <;> intro _) | fail)
        exact ⟨by trivial, by trivial, by trivial⟩
       ·simp only [List.take_succ_cons, List.take_zero]
        repeat' (first | simp (config := { maxSteps := 4000000 }) (disch := first | exact dZ | fail) only [goS, append_gt, append_gt_yes, plainEv, resultsEv, resultListEv, reduceIte, Nat.reduceEqDiff, goT, beq_self_eq_true, goH, goU, rs132, push_len, cell_one, st109, bx4, st26, st26_4, ld26, fa26_4, put_put, row5_4', build24, List.cons_append, List.nil_append, *] | (refine dX ?_ ?_ <;> (intro _; try (exfalso; omega))) | (refine dY ?_ ?_ <;> intro _) | fail)
        exact ⟨by trivial, by trivial⟩
      ·repeat' (first | simp (config := { maxSteps := 4000000 }) (disch := first | exact dZ | fail) only [goS, append_gt, append_gt_yes, plainEv, resultsEv, resultListEv, reduceIte, Nat.reduceEqDiff, goT, beq_self_eq_true, goH, goU, rs132, push_len, cell_one, st109, bx4, st26, st26_4, ld26, fa26_4, put_put, row5_4', build24, List.cons_append, List.nil_append, *] | (refine dX ?_ ?_ <;> (intro _; try (exfalso; omega))) | (refine dY ?_ ?_ <;> intro _) | fail)
       refine run_draw_but [(1, 3)] (by kernel_rfl) ?_ ?_
       ·intro pr hp
        simp only [List.mem_singleton] at hp
        subst hp
        refine stable_before (x := .ptr (.box (h.boxes.length + 1)) (0 + 4)) (v := .list .tight 5 [row5 xa.kind xa.n xa.no xa.name tka sza rowsa]) (by kernel_rfl) rfl rfl rfl (by kernel_rfl) (same_listE kr1.out _ _) ?_ ?_
        ·simp only [List.take_succ_cons, List.take_zero]
         repeat' (first | simp (config := { maxSteps := 4000000 }) (disch := first | exact dZ | fail) only [goS, append_gt, append_gt_yes, plainEv, resultsEv, resultListEv, reduceIte, Nat.reduceEqDiff, goT, beq_self_eq_true, goH, goU, rs132, push_len, cell_one, st109, bx4, st26, st26_4, ld26, fa26_4, put_put, row5_4', build24, List.cons_append, List.nil_append, *] | (refine dX ?_ ?_ <;> (intro _; try (exfalso; omega))) | (refine dY ?_ ?_ <;> intro _) | fail)
         exact ⟨by trivial, by trivial, by trivial⟩
        ·simp only [List.take_succ_cons, List.take_zero]
         repeat' (first | simp (config := { maxSteps := 4000000 }) (disch := first | exact dZ | fail) only [goS, append_gt, append_gt_yes, plainEv, resultsEv, resultListEv, reduceIte, Nat.reduceEqDiff, goT, beq_self_eq_true, goH, goU, rs132, push_len, cell_one, st109, bx4, st26, st26_4, ld26, fa26_4, put_put, row5_4', build24, List.cons_append, List.nil_append, *] | (refine dX ?_ ?_ <;> (intro _; try (exfalso; omega))) | (refine dY ?_ ?_ <;> intro _) | fail)
         exact ⟨by trivial, by trivial⟩
       ·repeat' (first | simp (config := { maxSteps := 4000000 }) (disch := first | exact dZ | fail) only [goS, append_gt, append_gt_yes, plainEv, resultsEv, resultListEv, reduceIte, Nat.reduceEqDiff, goT, beq_self_eq_true, goH, goU, rs132, push_len, cell_one, st109, bx4, st26, st26_4, ld26, fa26_4, put_put, row5_4', build24, List.cons_append, List.nil_append, *] | (refine dX ?_ ?_ <;> (intro _; try (exfalso; omega))) | (refine dY ?_ ?_ <;> intro _) | fail)
        exact ⟨_, _, rfl, _, _, _, rfl, ⟨_, _, _, rfl, krow.out⟩, kfin.out, kP.out⟩
end
end Go.Proofs.YtmdakolcndpjeaaGreatDoor
end

section
namespace Go.Proofs.YtmdakolcndpjeaaGreatDoor
open Go.AE Go.Lex Go.Pol Go.Syn
theorem rows_app {a b : List Ex} {r s : List (List AV)} (h1 : Go.Pol.Rows a r) (h2 : Go.Pol.Rows b s) : Go.Pol.Rows (a ++ b) (r ++ s) := by
 refine ⟨by simp [h1.1, h2.1], fun i x q hx hq => ?_⟩
 rcases Nat.lt_or_ge i a.length with hi | hi
 ·rw [List.getElem?_append_left hi] at hx
  rw [List.getElem?_append_left (by rw [h1.1]; exact hi)] at hq
  exact h1.2 i x q hx hq
 ·rw [List.getElem?_append_right hi] at hx
  rw [List.getElem?_append_right (by rw [h1.1]; exact hi), h1.1] at hq
  exact h2.2 _ x q hx hq
theorem app_first {b n0 : Nat} {h : Heap} {row : List AV} {t : List Ex} {tokS : Tok} {szS : Nat} {rowsS : List (List AV)} (hr : Go.Pol.Rows t rowsS) (hz : ∀ i : Nat, i < t.length → szS = 5) (hl : t.length ≤ 100000000) :
 ∃ tokA hA, appendEv Tryz.prog h #[24, 24] (.list .tight 5 [row]) (.list tokS szS rowsS) = some (.list tokA 5 (row :: rowsS), hA) ∧ Mut b n0 h hA ∧ hA.boxes = h.boxes := by
 cases t with
 | nil =>
  have e : rowsS = [] := List.eq_nil_of_length_eq_zero (by rw [hr.1]; rfl)
  subst e
  exact ⟨.tight, h, app_exs_none, Mut.refl _ _ _, rfl⟩
 | cons x r =>
  obtain rfl := hz 0 (by simp)
  have hne : rowsS ≠ [] := by
   intro q
   have := hr.1
   rw [q] at this
   simp at this
  exact ⟨_, _, app_exs (.inr (.inl rfl)) (.inl rfl) (by rw [hr.1]; simp at hl ⊢; omega) hne, Mut.app (.inr (.inl rfl)), app_boxes _ _⟩
section
variable {b : Nat} {tok : Tok} {sz : Nat} {l : List Tk} {n : Int} {p : Po} {t : PT} {h : Heap}
theorem some_count {α : Type} {s : List UInt8} {item : List Tk → PR α} (hq : ∀ l x r, isT s l = true → item l = .ok x r → r.length < l.length) : ∀ (m : Nat) (l : List Tk) (t : List α) (r : List Tk), someP s item m l = .ok t r → t.length + r.length ≤ l.length := by
 intro m
 induction m with
 | zero => intro l t r h; cases h
 | succ m ih =>
  intro l t r h
  unfold someP at h
  by_cases q : isT s l = true
  ·rw [if_pos q] at h
   obtain ⟨x, l1, e1, h⟩ := bind_inv h
   obtain ⟨v, l2, e2, h⟩ := bind_inv h
   injection h with h1 h2
   subst h1; subst h2
   have := hq _ _ _ q e1
   have := ih _ _ _ e2
   rw [List.length_cons]
   omega
  ·rw [if_neg q] at h
   injection h with h1 h2
   subst h1; subst h2
   simp
theorem next_less {m : Nat} {l r : List Tk} {x : Ex} (h : nextP (exprP m) l = .ok x r) : r.length < l.length := by
 have e1 : nextP (exprP m) l = (wantT cComma l).bind fun _ r => exprP m r := rfl
 rw [e1] at h
 obtain ⟨_, l3, w3, w4⟩ := bind_inv h
 have := want_len w3
 have := (nice_expr m).len l3
 rw [w4] at this
 have : r.length ≤ l3.length := this
 omega
theorem expr_of {m : Nat} (E : ReadsE m) (n0 : Nat) (P : Pa b tok sz l n p t h) (ho : okHeap h = true) (hn : n0 ≤ h.tn) (hl : l.length ≤ m) (h1 : isT kSome l = false) (h2 : isT kWeight l = false) (h3 : isT kUpto l = false) : Reads 132 [.ptr (.box b) 0] b n0 n p t h encE (exprP (m + 1) l) := by
 have a26 := ag26; have s26 := sz26; have z26 := zc26; have a109 := ag109; have s109 := sz109; have a24 := ag24; have s24 := sz24
 have A0 := At.start (n0 := n0) P.lt (row5 0 0 0 [] .nil 0 [])
 have P0 := (P.push [.ptr (.box b) 0]).push (row5 0 0 0 [] .nil 0 [])
 rw [exprP_of h1 h2 h3]
 have c0 := take_no P0 h1
 have c01 := take_no P0 h2
 have c02 := take_no P0 h3
 have hfew := P.few
 have hlt0 := P.lt
 have bwe := bw2 kOf cOpen
 have bwc := bw1 cClose
 simp only [kOf, cOpen] at bwe
 simp only [cClose] at bwc
 simp only [kSome] at c0
 simp only [kWeight] at c01
 simp only [kUpto] at c02
 obtain ⟨r2, h2, c2, q2⟩ := number_ev n0 P0
 have l0 := A0.len; have l00 := A0.len0; have p0 := A0.ptr; have x0 := A0.res
 cases w2 : numP l with
 | bad l2 =>
  rw [w2] at q2
  obtain ⟨rfl, m2⟩ := q2
  have kfin := Keep.mk (A0.call m2).mu
  clear A0 P0 P m2 E
  refine call_post rfl Tryz.func132 rfl ?_
  repeat' (first | simp (config := { maxSteps := 4000000 }) (disch := first | exact dZ | fail) only [goS, append_gt, append_gt_yes, plainEv, resultsEv, resultListEv, reduceIte, Nat.reduceEqDiff, goT, beq_self_eq_true, goH, goU, rs132, push_len, cell_one, st109, bx3, bw2, st26, st26_4, ld26, fa26_4, put_put, row5_4', build24, List.cons_append, List.nil_append, *] | (refine dX ?_ ?_ <;> (intro _; try (exfalso; omega))) | (refine dY ?_ ?_ <;> intro _) | fail)
  exact ⟨_, _, rfl, rfl, kfin.out⟩
 | ok d l2 =>
  rw [w2] at q2
  obtain ⟨v2, tok2, sz2, rfl, rfl, m2, P2⟩ := q2
  have A2 := A0.call m2
  have A3 := A2.set (row5 3 d 0 [] .nil 0 [])
  have P3 := P2.put (c := h.boxes.length + 1) (by omega) (row5 3 d 0 [] .nil 0 [])
  have hl2 : l2.length < l.length := by have := num_len w2; omega
  obtain ⟨r4, h4, c4, q4⟩ := want_ev n0 .tight [kOf, cOpen] (by simp) P3
  simp only [kOf, cOpen] at c4
  have l2' := A2.len; have l20 := A2.len0; have x2 := A2.res; have p2 := A2.ptr; have p3 := A3.ptr
  rw [bind_ok]
  cases w4 : wantP [kOf, cOpen] l2 with
  | bad l4 =>
   rw [w4] at q4
   obtain ⟨rfl, m4⟩ := q4
   have kfin := Keep.mk (A3.call m4).mu
   clear A0 A2 A3 P0 P2 P3 P m2 m4 E
   refine call_post rfl Tryz.func132 rfl ?_
   repeat' (first | simp (config := { maxSteps := 4000000 }) (disch := first | exact dZ | fail) only [goS, append_gt, append_gt_yes, plainEv, resultsEv, resultListEv, reduceIte, Nat.reduceEqDiff, goT, beq_self_eq_true, goH, goU, rs132, push_len, cell_one, st109, bx3, bw2, st26, st26_4, ld26, fa26_4, put_put, row5_4', build24, List.cons_append, List.nil_append, *] | (refine dX ?_ ?_ <;> (intro _; try (exfalso; omega))) | (refine dY ?_ ?_ <;> intro _) | fail)
   exact ⟨_, _, rfl, rfl, kfin.out⟩
  | ok u4 l4 =>
   rw [w4] at q4
   obtain ⟨v4, tok4, sz4, rfl, rfl, m4, P4⟩ := q4
   have A4 := A3.call m4
   have hl4 : l4.length ≤ l2.length := by
    have := (nice_wants [kOf, cOpen]).len l2
    rw [w4] at this; exact this
   obtain ⟨r5, h5, c5, q5⟩ := E b n0 tok4 sz4 l4 n p t h4 P4 (A4.mu.ok ho) (Nat.le_trans hn A4.mu.tn) (by omega)
   have l4' := A4.len; have l40 := A4.len0; have x4 := A4.res; have p4 := A4.ptr
   rw [bind_ok]
   cases w5 : exprP m l4 with
   | bad l5 =>
    rw [w5] at q5
    obtain ⟨rfl, m5⟩ := q5
    have kfin := Keep.mk (A4.call m5).mu
    clear A0 A2 A3 A4 P0 P2 P3 P4 P m2 m4 m5 E
    refine call_post rfl Tryz.func132 rfl ?_
    repeat' (first | simp (config := { maxSteps := 4000000 }) (disch := first | exact dZ | fail) only [goS, append_gt, append_gt_yes, plainEv, resultsEv, resultListEv, reduceIte, Nat.reduceEqDiff, goT, beq_self_eq_true, goH, goU, rs132, push_len, cell_one, st109, bx3, bw2, st26, st26_4, ld26, fa26_4, put_put, row5_4', build24, List.cons_append, List.nil_append, *] | (refine dX ?_ ?_ <;> (intro _; try (exfalso; omega))) | (refine dY ?_ ?_ <;> intro _) | fail)
    exact ⟨_, _, rfl, rfl, kfin.out⟩
   | ok xa l5 =>
    rw [w5] at q5
    obtain ⟨v5, tok5, sz5, rfl, ⟨tka, sza, rowsa, rfl, hra⟩, m5, P5⟩ := q5
    have A5 := A4.call m5
    have A6 := A5.set (row5 3 d 0 [] .tight 5 [row5 xa.kind xa.n xa.no xa.name tka sza rowsa])
    have P6 := P5.put (c := h.boxes.length + 1) (by omega) (row5 3 d 0 [] .tight 5 [row5 xa.kind xa.n xa.no xa.name tka sza rowsa])
    have hl5 : l5.length ≤ l4.length := by
     have := (nice_expr m).len l4
     rw [w5] at this; exact this
    obtain ⟨r7, h7, c7, q7⟩ := some_ex_ev (c := h.boxes.length) E n0 P6 A6.ptr (by omega) (A6.mu.ok ho) (Nat.le_trans hn A6.mu.tn) (by omega) (m + 1) (by omega)
    simp only [cComma] at c7
    have l5' := A5.len; have l50 := A5.len0; have x5 := A5.res; have p5 := A5.ptr; have p6 := A6.ptr; have x6 := A6.res; have l6 := A6.len
    have hr1 := rows_one hra
    rw [bind_ok]
    cases w7 : someP cComma (nextP (exprP m)) (m + 1) l5 with
    | bad l7 =>
     rw [w7] at q7
     obtain ⟨rfl, m7⟩ := q7
     have kfin := Keep.mk (A6.call m7).mu
     clear A0 A2 A3 A4 A5 A6 P0 P2 P3 P4 P5 P6 P m2 m4 m5 m7 E hra hr1
     refine call_post rfl Tryz.func132 rfl ?_
     repeat' (first | simp (config := { maxSteps := 4000000 }) (disch := first | exact dZ | fail) only [goS, append_gt, append_gt_yes, plainEv, resultsEv, resultListEv, reduceIte, Nat.reduceEqDiff, goT, beq_self_eq_true, goH, goU, rs132, push_len, cell_one, st109, bx3, bw2, st26, st26_4, ld26, fa26_4, put_put, row5_4', build24, List.cons_append, List.nil_append, *] | (refine dX ?_ ?_ <;> (intro _; try (exfalso; omega))) | (refine dY ?_ ?_ <;> intro _) | fail)
     refine run_draw_mid 4 [] (by kernel_rfl) (by kernel_rfl) (by kernel_rfl) ?_
     repeat' (first | simp (config := { maxSteps := 4000000 }) (disch := first | exact dZ | fail) only [goS, append_gt, append_gt_yes, plainEv, resultsEv, resultListEv, reduceIte, Nat.reduceEqDiff, goT, beq_self_eq_true, goH, goU, rs132, push_len, cell_one, st109, bx3, bw2, st26, st26_4, ld26, fa26_4, put_put, row5_4', build24, List.cons_append, List.nil_append, List.take_succ_cons, List.take_zero, List.drop_succ_cons, List.drop_zero, List.head?_cons, List.filterMap_cons, List.filterMap_nil, midQ_normal, panQ_panic, normQ_normal, dim_defers, dim_pan, and_true, true_and, *] | (refine dX ?_ ?_ <;> (intro _; try (exfalso; omega))) | (refine dY ?_ ?_ <;> intro _) | fail)
     exact ⟨_, _, rfl, rfl, kfin.out⟩
    | ok ts l7 =>
     rw [w7] at q7
     obtain ⟨v7, tok7, sz7, rfl, ⟨tkS, szS, rowsS, rfl, hrS, hzS⟩, m7, P7⟩ := q7
     have A7 := A6.call m7
     have hcnt := some_count (fun l x r _ h => next_less h) _ _ _ _ w7
     obtain ⟨tokA, hA, happ, mA, eA⟩ := app_first (b := b) (n0 := n0) (h := h7) (row := row5 xa.kind xa.n xa.no xa.name tka sza rowsa) hrS hzS (tokS := tkS) (by omega)
     have A8 := A7.call mA
     have A9 := A8.set (row5 3 d 0 [] tokA 5 (row5 xa.kind xa.n xa.no xa.name tka sza rowsa :: rowsS))
     have P8 : Pa b tok7 sz7 l7 n p t hA := ⟨by rw [eA]; exact P7.box, P7.size, P7.few⟩
     have P9 := P8.put (c := h.boxes.length + 1) (by omega) (row5 3 d 0 [] tokA 5 (row5 xa.kind xa.n xa.no xa.name tka sza rowsa :: rowsS))
     obtain ⟨r10, h10, c10, q10⟩ := want1_ev n0 .tight cClose P9
     simp only [cClose] at c10
     have x7 := A7.res; have l7' := A7.len; have p7 := A7.ptr; have x8 := A8.res; have l8 := A8.len; have p9 := A9.ptr
     rw [bind_ok]
     cases w10 : wantT cClose l7 with
     | bad l10 =>
      rw [w10] at q10
      obtain ⟨rfl, m10⟩ := q10
      have kfin := Keep.mk (A9.call m10).mu
      have ks := Keep.mk hr1
      clear A0 A2 A3 A4 A5 A6 A7 A8 A9 P0 P2 P3 P4 P5 P6 P7 P8 P9 P m2 m4 m5 m7 m10 mA E hra hr1 hrS hzS eA
      refine call_post rfl Tryz.func132 rfl ?_
      repeat' (first | simp (config := { maxSteps := 4000000 }) (disch := first | exact dZ | fail) only [goS, append_gt, append_gt_yes, plainEv, resultsEv, resultListEv, reduceIte, Nat.reduceEqDiff, goT, beq_self_eq_true, goH, goU, rs132, push_len, cell_one, st109, bx3, bw2, st26, st26_4, ld26, fa26_4, put_put, row5_4', build24, List.cons_append, List.nil_append, *] | (refine dX ?_ ?_ <;> (intro _; try (exfalso; omega))) | (refine dY ?_ ?_ <;> intro _) | fail)
      refine run_draw_but [(1, 4)] (by kernel_rfl) ?_ ?_
      ·intro pr hp
       simp only [List.mem_singleton] at hp
       subst hp
       refine stable_before (x := .ptr (.box (h.boxes.length + 1)) (0 + 4)) (v := .list .tight 5 [row5 xa.kind xa.n xa.no xa.name tka sza rowsa]) (by kernel_rfl) rfl rfl rfl (by kernel_rfl) (same_listE ks.out _ _) ?_ ?_
       ·simp only [List.take_succ_cons, List.take_zero]
        repeat' (first | simp (config := { maxSteps := 4000000 }) (disch := first | exact dZ | fail) only [goS, append_gt, append_gt_yes, plainEv, resultsEv, resultListEv, reduceIte, Nat.reduceEqDiff, goT, beq_self_eq_true, goH, goU, rs132, push_len, cell_one, st109, bx3, bw2, st26, st26_4, ld26, fa26_4, put_put, row5_4', build24, List.cons_append, List.nil_append, *] | (refine dX ?_ ?_ <;> (intro _; try (exfalso; omega))) | (refine dY ?_ ?_ <;> intro _) | fail)
        exact ⟨by trivial, by trivial, by trivial⟩
       ·simp only [List.take_succ_cons, List.take_zero]
        repeat' (first | simp (config := { maxSteps := 4000000 }) (disch := first | exact dZ | fail) only [goS, append_gt, append_gt_yes, plainEv, resultsEv, resultListEv, reduceIte, Nat.reduceEqDiff, goT, beq_self_eq_true, goH, goU, rs132, push_len, cell_one, st109, bx3, bw2, st26, st26_4, ld26, fa26_4, put_put, row5_4', build24, List.cons_append, List.nil_append, *] | (refine dX ?_ ?_ <;> (intro _; try (exfalso; omega))) | (refine dY ?_ ?_ <;> intro _) | fail)
        exact ⟨by trivial, by trivial⟩
      ·repeat' (first | simp (config := { maxSteps := 4000000 }) (disch := first | exact dZ | fail) only [goS, append_gt, append_gt_yes, plainEv, resultsEv, resultListEv, reduceIte, Nat.reduceEqDiff, goT, beq_self_eq_true, goH, goU, rs132, push_len, cell_one, st109, bx3, bw2, st26, st26_4, ld26, fa26_4, put_put, row5_4', build24, List.cons_append, List.nil_append, *] | (refine dX ?_ ?_ <;> (intro _; try (exfalso; omega))) | (refine dY ?_ ?_ <;> intro _) | fail)
       exact ⟨_, _, rfl, rfl, kfin.out⟩
     | ok u10 l10 =>
      rw [w10] at q10
      obtain ⟨v10, tok10, sz10, rfl, rfl, m10, P10⟩ := q10
      have A10 := A9.call m10
      have A11 := A10.set (row5 3 d 0 [] tokA 5 (row5 xa.kind xa.n xa.no xa.name tka sza rowsa :: rowsS))
      have l10' := A10.len; have x10 := A10.res; have x11 := A11.res
      have kfin := Keep.mk A11.mu
      have kP := Keep.mk (P10.put (c := h.boxes.length + 1) (by omega) (row5 3 d 0 [] tokA 5 (row5 xa.kind xa.n xa.no xa.name tka sza rowsa :: rowsS)))
      have krow := Keep.mk (row_list (k := 3) (n := d) (no := 0) (s := []) (l := xa :: ts) (tok := tokA) (sz := 5) (rows_app hr1 hrS) (fun _ _ => rfl) (by simp; omega))
      have ks := Keep.mk hr1
      clear A0 A2 A3 A4 A5 A6 A7 A8 A9 A10 A11 P0 P2 P3 P4 P5 P6 P7 P8 P9 P10 P m2 m4 m5 m7 m10 mA E hra hr1 hrS hzS eA
      refine call_post rfl Tryz.func132 rfl ?_
      repeat' (first | simp (config := { maxSteps := 4000000 }) (disch := first | exact dZ | fail) only [goS, append_gt, append_gt_yes, plainEv, resultsEv, resultListEv, reduceIte, Nat.reduceEqDiff, goT, beq_self_eq_true, goH, goU, rs132, push_len, cell_one, st109, bx3, bw2, st26, st26_4, ld26, fa26_4, put_put, row5_4', build24, List.cons_append, List.nil_append, *] | (refine dX ?_ ?_ <;> (intro _; try (exfalso; omega))) | (refine dY ?_ ?_ <;> intro _) | fail)
      refine run_draw_but [(1, 4)] (by kernel_rfl) ?_ ?_
      ·intro pr hp
       simp only [List.mem_singleton] at hp
       subst hp
       refine stable_before (x := .ptr (.box (h.boxes.length + 1)) (0 + 4)) (v := .list .tight 5 [row5 xa.kind xa.n xa.no xa.name tka sza rowsa]) (by kernel_rfl) rfl rfl rfl (by kernel_rfl) (same_listE ks.out _ _) ?_ ?_
       ·simp only [List.take_succ_cons, List.take_zero]
        repeat' (first | simp (config := { maxSteps := 4000000 }) (disch := first | exact dZ | fail) only [goS, append_gt, append_gt_yes, plainEv, resultsEv, resultListEv, reduceIte, Nat.reduceEqDiff, goT, beq_self_eq_true, goH, goU, rs132, push_len, cell_one, st109, bx3, bw2, st26, st26_4, ld26, fa26_4, put_put, row5_4', build24, List.cons_append, List.nil_append, *] | (refine dX ?_ ?_ <;> (intro _; try (exfalso; omega))) | (refine dY ?_ ?_ <;> intro _) | fail)
        exact ⟨by trivial, by trivial, by trivial⟩
       ·simp only [List.take_succ_cons, List.take_zero]
        repeat' (first | simp (config := { maxSteps := 4000000 }) (disch := first | exact dZ | fail) only [goS, append_gt, append_gt_yes, plainEv, resultsEv, resultListEv, reduceIte, Nat.reduceEqDiff, goT, beq_self_eq_true, goH, goU, rs132, push_len, cell_one, st109, bx3, bw2, st26, st26_4, ld26, fa26_4, put_put, row5_4', build24, List.cons_append, List.nil_append, *] | (refine dX ?_ ?_ <;> (intro _; try (exfalso; omega))) | (refine dY ?_ ?_ <;> intro _) | fail)
        exact ⟨by trivial, by trivial⟩
      ·repeat' (first | simp (config := { maxSteps := 4000000 }) (disch := first | exact dZ | fail) only [goS, append_gt, append_gt_yes, plainEv, resultsEv, resultListEv, reduceIte, Nat.reduceEqDiff, goT, beq_self_eq_true, goH, goU, rs132, push_len, cell_one, st109, bx3, bw2, st26, st26_4, ld26, fa26_4, put_put, row5_4', build24, List.cons_append, List.nil_append, *] | (refine dX ?_ ?_ <;> (intro _; try (exfalso; omega))) | (refine dY ?_ ?_ <;> intro _) | fail)
       exact ⟨_, _, rfl, _, _, _, rfl, ⟨_, _, _, rfl, krow.out⟩, kfin.out, kP.out⟩
theorem reads_expr : ∀ m, ReadsE m := by
 intro m
 induction m with
 | zero => intro b n0 tok sz l n p t h _ _ _ hl; exact absurd hl (Nat.not_lt_zero _)
 | succ m E =>
  intro b n0 tok sz l n p t h P ho hn hl
  cases w1 : isT kSome l with
  | true => exact expr_some n0 P w1
  | false =>
   cases w2 : isT kWeight l with
   | true => exact expr_weight n0 P w1 w2
   | false =>
    cases w3 : isT kUpto l with
    | true => exact expr_upto E n0 P ho hn (by omega) w1 w2 w3
    | false => exact expr_of E n0 P ho hn (by omega) w1 w2 w3
end
end Go.Proofs.YtmdakolcndpjeaaGreatDoor
end
