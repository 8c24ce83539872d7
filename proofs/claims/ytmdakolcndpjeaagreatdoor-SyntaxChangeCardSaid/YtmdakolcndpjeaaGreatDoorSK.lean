/-
 Part of the proof: SK.
-/
import Derived.Test.YtmdakolcndpjeaaGreatDoorSJ
import Derived.Test.YtmdakolcndpjeaaGreatDoorSH
import Derived.Test.YtmdakolcndpjeaaGreatDoorSD
import Derived.Test.YtmdakolcndpjeaaGreatDoorSC
import Derived.Test.YtmdakolcndpjeaaGreatDoorE4
set_option maxHeartbeats 64000000
set_option maxRecDepth 100000
set_option linter.unusedSimpArgs false
set_option linter.unusedVariables false
set_option linter.constructorNameAsVariable false
section
namespace Go.Proofs.YtmdakolcndpjeaaGreatDoor
open Go.AE Go.Lex Go.Pol Go.Syn
theorem rs12 : Tryz.f12.results.toList = [.tmp 2, .tmp 3] := by kernel_rfl
theorem bz65 : buildEv Tryz.prog 65 [] = some (.agg [.list .nil 0 (toks [])]) := by kernel_rfl
theorem c65 (x : AV) (hx : x = .list .nil 0 (toks [])) : (AV.agg [x]).cellsO = some [x] := by subst hx; rfl
def printF (p : Po) : List UInt8 × Int := if wrP p = true then (joinS (tokP p), 0) else ([], 190)
theorem mode_of {p : Po} (h : wrP p = true) : 1 ≤ p.mode ∧ p.mode ≤ 4 := by
 unfold wrP at h
 simp only [Bool.and_eq_true, decide_eq_true_eq] at h
 exact h.1
theorem printF_no {p : Po} (h : ¬ wrP p = true) : printF p = ([], 190) := by unfold printF; rw [if_neg h]
theorem printF_yes {p : Po} (h : wrP p = true) : printF p = (joinS (tokP p), 0) := by unfold printF; rw [if_pos h]
def PrPost (p : Po) (h : Heap) (r : Res) (h' : Heap) : Prop := r = .ret (.tuple [.v (.string (bs (printF p).1)), .v (.int .i64 (printF p).2)]) ∧ Ext h h'
theorem print_ev (p : Po) (t : PT) (hp : POk p t) (hlen : (tokP p).length ≤ 1048576) (h : Heap) (ho : okHeap h = true) : Says W 12 [.agg (prow p t)] h (.ret (.tuple [.v (.string (bs (printF p).1)), .v (.int .i64 (printF p).2)])) := by
 have a28 := ag28; have s28 := sz28; have z28 := zc28; have a3 := ag3; have a39 := ag39; have s39 := sz39; have a9 := ag9; have a31 := ag31'
 suffices hh : ∃ r h', W.call 12 [.agg (prow p t)] h = some (r, h') ∧ PrPost p h r h' by
  obtain ⟨r, h', a, rfl, b⟩ := hh
  exact ⟨h', a, b⟩
 unfold PrPost
 have x1 := Ext.push h (prow p t)
 by_cases hm1 : p.mode < 1
 ·have hw : ¬ wrP p = true := fun hw => by have := (mode_of hw).1; omega
  rw [printF_no hw]
  have kx1 := Keep.mk x1
  clear x1 hw
  refine call_post rfl Tryz.func12 rfl ?_
  repeat' (first | simp (config := { maxSteps := 4000000 }) (disch := first | exact dZ | fail) only [goS, append_gt, append_gt_yes, plainEv, resultsEv, resultListEv, reduceIte, Nat.reduceEqDiff, goT, beq_self_eq_true, goH, goU, rs12, fp28, prs, push_len, *] | (refine dX ?_ ?_ <;> (intro _; try (exfalso; omega))) | (refine dY ?_ ?_ <;> intro _) | fail)
  exact ⟨_, _, rfl, rfl, kx1.out⟩
 by_cases hm4 : 4 < p.mode
 ·have hw : ¬ wrP p = true := fun hw => by have := (mode_of hw).2; omega
  rw [printF_no hw]
  have kx1 := Keep.mk x1
  clear x1 hw
  refine call_post rfl Tryz.func12 rfl ?_
  repeat' (first | simp (config := { maxSteps := 4000000 }) (disch := first | exact dZ | fail) only [goS, append_gt, append_gt_yes, plainEv, resultsEv, resultListEv, reduceIte, Nat.reduceEqDiff, goT, beq_self_eq_true, goH, goU, rs12, fp28, prs, push_len, *] | (refine dX ?_ ?_ <;> (intro _; try (exfalso; omega))) | (refine dY ?_ ?_ <;> intro _) | fail)
  exact ⟨_, _, rfl, rfl, kx1.out⟩
 have x2 := x1.trans (Ext.push (h.push (prow p t)) [.list .nil 0 (toks [])])
 have W0 : Wr (h.boxes.length + 1) h.tn [] ((h.push (prow p t)).push [.list .nil 0 (toks [])]) := ⟨⟨.nil, 0, by
  have := push_last (h.push (prow p t)) [.list .nil 0 (toks [])]
  rw [push_len] at this
  exact this, .inr ⟨rfl, rfl⟩, .inl rfl⟩, x2.ok ho, x2.tn, Nat.zero_le _⟩
 have pb0 : ((h.push (prow p t)).push [.list .nil 0 (toks [])]).boxes[h.boxes.length]? = some (prow p t) := push_old (push_last _ _)
 obtain ⟨h2, c2, m2, W2⟩ := policy_ev (h.boxes.length + 1) h.tn p t hp (by omega) (by omega) [] _ W0 (by rw [List.nil_append]; omega)
 rw [List.nil_append] at W2
 have x3 := x2.mut m2 (by omega)
 have pb2 := m2.box _ _ (by omega) pb0
 obtain ⟨tok, sz, wb, wsz, -⟩ := W2.box
 have hne : tokP p ≠ [] := by simp [tokP]
 have hz : ∀ i : Nat, i < (tokP p).length → sz = 4 := fun _ _ => wsz.resolve_right fun q => hne q.1
 obtain ⟨h3, c3, x4⟩ := text_ev tok sz (tokP p) hz hlen h2
 rw [textB_eq] at c3
 have nb0 := (List.getElem?_eq_some_iff.1 pb2).1
 have wb3 := x4.box _ _ wb
 have pb3 := x4.box _ _ pb2
 have x5 := x3.trans x4
 have lp0 := load28 pb0
 by_cases hv : Valid (tokP p)
 rotate_left 1
 ·have hw : ¬ wrP p = true := fun hw => hv (pol_valid hw)
  rw [printF_no hw]
  have e1 : textE (tokP p) = 30 := by
   unfold textE
   rw [if_neg]
   intro q
   exact hv fun t ht => List.all_eq_true.1 q t ht
  rw [e1] at c3
  have kx := Keep.mk x5
  clear x1 x2 x3 x4 x5 W0 W2 m2 hw hv hz wsz
  refine call_post rfl Tryz.func12 rfl ?_
  repeat' (first | simp (config := { maxSteps := 4000000 }) (disch := first | exact dZ | fail) only [goS, append_gt, append_gt_yes, plainEv, resultsEv, resultListEv, reduceIte, Nat.reduceEqDiff, goT, beq_self_eq_true, goH, goU, rs12, fp28, prs, push_len, bz65, c65, fa65, cell_one, *] | (refine dX ?_ ?_ <;> (intro _; try (exfalso; omega))) | (refine dY ?_ ?_ <;> intro _) | fail)
  exact ⟨_, _, rfl, rfl, kx.out⟩
 have e1 : textE (tokP p) = 0 := by
  unfold textE
  rw [if_pos]
  exact List.all_eq_true.2 fun t ht => hv t ht
 have e2 : textS (tokP p) = joinS (tokP p) := by
  unfold textS
  rw [if_pos]
  exact List.all_eq_true.2 fun t ht => hv t ht
 rw [e1, e2] at c3
 obtain ⟨r4, h4, c4, q4⟩ := read_ev ((tokP p).length + 1) tok sz (tokP p) 0 hz (by omega) (by omega) h3 (x5.ok ho)
 unfold RdPost at q4
 cases w : wholeP ((tokP p).length + 1) (tokP p) with
 | bad q =>
  rw [w] at q4
  obtain ⟨rfl, x6⟩ := q4
  have hw : ¬ wrP p = true := fun hw => by
   have := read_whole hw (m := (tokP p).length + 1) (by omega)
   rw [w] at this
   cases this
  rw [printF_no hw]
  have x7 := x5.trans x6
  have kx := Keep.mk (x7.trans (Ext.push h4 (prow zP zT)))
  clear x1 x2 x3 x4 x5 x6 x7 W0 W2 m2 hw hv hz wsz
  refine call_post rfl Tryz.func12 rfl ?_
  repeat' (first | simp (config := { maxSteps := 4000000 }) (disch := first | exact dZ | fail) only [goS, append_gt, append_gt_yes, plainEv, resultsEv, resultListEv, reduceIte, Nat.reduceEqDiff, goT, beq_self_eq_true, goH, goU, rs12, fp28, prs, push_len, bz65, c65, fa65, cell_one, st28, put_push_eq, *] | (refine dX ?_ ?_ <;> (intro _; try (exfalso; omega))) | (refine dY ?_ ?_ <;> intro _) | fail)
  exact ⟨_, _, rfl, rfl, kx.out⟩
 | ok x q =>
  rw [w] at q4
  obtain ⟨u, rfl, hu, x6⟩ := q4
  have x7 := x5.trans x6
  have pb4 := push_old (cs := prow x u) (x6.box _ _ pb3)
  have px4 := push_last h4 (prow x u)
  obtain ⟨h5, c5, x8⟩ := sameO_ev x p u t hu hp (h4.push (prow x u))
  have lx4 := load28 px4
  have lp4 := load28 pb4
  have kx := Keep.mk ((x7.trans (Ext.push h4 (prow x u))).trans x8)
  cases hs : sameP x p with
  | true =>
   have hxp := sameP_iff.1 hs
   have hw : wrP p = true := by
    rw [hxp] at w
    exact whole_read hv w
   rw [printF_yes hw]
   rw [hs] at c5
   clear x1 x2 x3 x4 x5 x6 x7 x8 W0 W2 m2 hw hv hz wsz hxp hs hu
   refine call_post rfl Tryz.func12 rfl ?_
   repeat' (first | simp (config := { maxSteps := 4000000 }) (disch := first | exact dZ | fail) only [goS, append_gt, append_gt_yes, plainEv, resultsEv, resultListEv, reduceIte, Nat.reduceEqDiff, goT, beq_self_eq_true, goH, goU, rs12, fp28, prs, push_len, bz65, c65, fa65, cell_one, st28, put_push_eq, *] | (refine dX ?_ ?_ <;> (intro _; try (exfalso; omega))) | (refine dY ?_ ?_ <;> intro _) | fail)
   exact ⟨_, _, rfl, rfl, kx.out⟩
  | false =>
   have hw : ¬ wrP p = true := fun hw => by
    have := read_whole hw (m := (tokP p).length + 1) (by omega)
    rw [w] at this
    injection this with e _
    rw [sameP_iff.2 e] at hs
    cases hs
   rw [printF_no hw]
   rw [hs] at c5
   clear x1 x2 x3 x4 x5 x6 x7 x8 W0 W2 m2 hw hv hz wsz hs hu
   refine call_post rfl Tryz.func12 rfl ?_
   repeat' (first | simp (config := { maxSteps := 4000000 }) (disch := first | exact dZ | fail) only [goS, append_gt, append_gt_yes, plainEv, resultsEv, resultListEv, reduceIte, Nat.reduceEqDiff, goT, beq_self_eq_true, goH, goU, rs12, fp28, prs, push_len, bz65, c65, fa65, cell_one, st28, put_push_eq, *] | (refine dX ?_ ?_ <;> (intro _; try (exfalso; omega))) | (refine dY ?_ ?_ <;> intro _) | fail)
   exact ⟨_, _, rfl, rfl, kx.out⟩
end Go.Proofs.YtmdakolcndpjeaaGreatDoor
end

section
namespace Go.Proofs.YtmdakolcndpjeaaGreatDoor
open Go.AE Go.Lex Go.Pol Go.Syn
def exW : List UInt8 := [112, 111, 108, 105, 99, 121, 32, 98, 97, 110, 107, 32, 59, 32, 109, 111, 100, 101, 32, 98, 111, 116, 104, 32, 59, 32, 111, 102, 102, 105, 99, 101, 32, 99, 108, 101, 114, 107, 32, 59, 32, 111, 102, 102, 105, 99, 101, 32, 99, 104, 105, 101, 102, 32, 59, 32, 107, 105, 110, 100, 32, 108, 111, 97, 110, 32, 59, 32, 114, 117, 108, 101, 32, 108, 111, 97, 110, 32, 116, 104, 105, 110, 107, 32, 54, 48, 32, 61, 32, 50, 32, 111, 102, 32, 40, 32, 115, 111, 109, 101, 32, 99, 104, 105, 101, 102, 32, 44, 32, 119, 101, 105, 103, 104, 116, 32, 51, 32, 111, 102, 32, 99, 108, 101, 114, 107, 32, 44, 32, 117, 112, 116, 111, 32, 49, 48, 48, 32, 40, 32, 115, 111, 109, 101, 32, 99, 108, 101, 114, 107, 32, 41, 32, 101, 108, 115, 101, 32, 40, 32, 49, 32, 111, 102, 32, 40, 32, 115, 111, 109, 101, 32, 99, 104, 105, 101, 102, 32, 41, 32, 41, 32, 41, 32, 59, 32, 99, 104, 97, 110, 103, 101, 32, 61, 32, 115, 111, 109, 101, 32, 99, 104, 105, 101, 102, 32, 59]
def exS : List UInt8 := [112, 111, 108, 105, 99, 121, 32, 112, 59, 109, 111, 100, 101, 32, 110, 101, 119, 59, 99, 104, 97, 110, 103, 101, 61, 115, 111, 109, 101, 32, 99, 108, 101, 114, 107, 59]
def exT0 : List UInt8 := [112, 111, 108, 105, 99, 121, 32, 112, 32, 59, 32, 109, 111, 100, 101, 32, 110, 101, 119, 32, 59, 32, 99, 104, 97, 110, 103, 101, 32, 61, 32, 115, 111, 109, 101, 32, 99, 108, 101, 114, 107, 32, 59]
def exB0 : List UInt8 := []
def exB1 : List UInt8 := [112, 111, 108, 105, 99, 121, 32, 111, 108, 100, 59]
def exB2 : List UInt8 := [112, 111, 108, 105, 99, 121, 32, 112, 59, 109, 111, 100, 101, 32, 115, 111, 109, 101, 59]
def exB3 : List UInt8 := [112, 111, 108, 105, 99, 121, 32, 112, 59, 109, 111, 100, 101, 32, 111, 108, 100, 59, 99, 104, 97, 110, 103, 101]
def exB4 : List UInt8 := [112, 111, 108, 105, 99, 121, 32, 112, 59, 32, 109, 111, 100, 101, 32, 111, 108, 100, 59, 32, 99, 104, 97, 110, 103, 101, 32, 61, 32, 50, 32, 111, 102, 32, 40, 41, 59]
def someX (s : List UInt8) : Ex := .mk 1 0 0 s []
def sClerk : List UInt8 := [99, 108, 101, 114, 107]
def sChief : List UInt8 := [99, 104, 105, 101, 102]
def sLoan : List UInt8 := [108, 111, 97, 110]
def sBank : List UInt8 := [98, 97, 110, 107]
def exOne : Ex := .mk 3 1 0 [] [someX sChief]
def exUpto : Ex := .mk 4 100 0 [] [someX sClerk, exOne]
def exWeight : Ex := .mk 2 3 0 sClerk []
def exTwo : Ex := .mk 3 2 0 [] [someX sChief, exWeight, exUpto]
def exP : Po := { name := sBank, kinds := [sLoan], offices := [sClerk, sChief], rules := [⟨sLoan, 0, 60, exTwo⟩], change := someX sChief, mode := 3 }
def exQ : Po := { name := [112], kinds := [], offices := [], rules := [], change := someX sClerk, mode := 2 }
def numK (t : List UInt8) : Bool := decide (num t 0 ≤ 1099511627776) && decide (digs 20 (num t 0) [] = t)
theorem numK_eq (t : List UInt8) : numK t = numOk t := by
 unfold numK numOk
 by_cases h : num t 0 ≤ 1099511627776
 ·rw [digs_eq _ _ _ (by omega) (by omega), List.append_nil]
 ·simp [h]
def stepK (c : UInt8) (r : List UInt8) : Option (Nat × Option (Int × List UInt8 × Int)) :=
 if white c then some (1, none)
 else if c = 47 ∧ r.head? = some 47 then some (((c :: r).takeWhile (fun b => b != 10)).length, none)
 else if letter c then
  if nameB ((c :: r).takeWhile partB) then some (((c :: r).takeWhile partB).length, some (1, (c :: r).takeWhile partB, 0)) else none
 else if digit c then
  if numK ((c :: r).takeWhile digit) then some (((c :: r).takeWhile digit).length, some (2, [], num ((c :: r).takeWhile digit) 0)) else none
 else if isSign c then some (1, some (3, [c], 0))
 else none
theorem stepK_eq (c : UInt8) (r : List UInt8) : stepK c r = stepB c r := by
 unfold stepK stepB
 simp only [numK_eq]
def lexK : Nat → List UInt8 → Nat → Out
 | _, [], _ => .ok []
 | 0, _ :: _, _ => .ok []
 | m + 1, c :: r, k =>
  match stepK c r with
  | none => .wrong k
  | some (n, o) => (lexK m (r.drop (n - 1)) (k + n)).add o k
theorem lexK_eq : ∀ (m : Nat) (s : List UInt8) (k : Nat), s.length ≤ m → lexK m s k = lexR s k := by
 intro m
 induction m with
 | zero =>
  intro s k h
  cases s with
  | nil => rw [lexK, lexR_nil]
  | cons c r => simp at h
 | succ m ih =>
  intro s k h
  cases s with
  | nil => rw [lexK, lexR_nil]
  | cons c r =>
   rw [lexK, stepK_eq]
   cases hs : stepB c r with
   | none => rw [lexR_none hs]
   | some x =>
    obtain ⟨n, o⟩ := x
    rw [lexR_some hs]
    show (lexK m (r.drop (n - 1)) (k + n)).add o k = _
    rw [ih _ _ (by simp at h ⊢; omega)]
def parseK (src : List UInt8) : Po × Int × Int :=
 match lexK src.length src 0 with
 | .ok l => match wholeP (l.length + 1) l with
  | .ok p _ => (p, 0, 0)
  | .bad r => (zP, failAt (src.length : Int) r, 190)
 | .wrong k => (zP, (k : Int), 30)
theorem parseK_eq {src : List UInt8} {x : Po × Int × Int} (hs : src.length ≤ 65536) (h : parseK src = x) : parseF src = x := by
 rw [← h]
 have hn : ¬ 65536 < src.length := by omega
 unfold parseK parseF lexF
 rw [lexK_eq _ _ _ (Nat.le_refl _)]
 simp only [if_neg hn]
 cases lexR src 0 with
 | ok l => simp only [if_true]; cases wholeP (l.length + 1) l <;> rfl
 | wrong k => simp
def textK (t : Tk) : List UInt8 := if t.kind = 2 then digs 20 t.n.toNat [] else t.text
theorem textK_eq {t : Tk} (h : t.n.toNat < 10000000000) : textK t = textOf t := by
 unfold textK textOf
 split
 ·rw [digs_eq _ _ _ (by omega) (by omega), List.append_nil]
 ·rfl
theorem joinK_eq {l : List Tk} (h : (l.all fun t => decide (t.n.toNat < 10000000000)) = true) : Lib.join (l.map textK) [32] = joinS l := by
 unfold joinS
 congr 1
 refine List.map_congr_left fun t ht => textK_eq ?_
 have := List.all_eq_true.1 h t ht
 simpa using this
theorem parse_B0 : parseF exB0 = (zP, 0, 190) := parseK_eq (of_decide_eq_true (by kernel_rfl)) (by kernel_rfl)
theorem parse_B1 : parseF exB1 = (zP, 7, 190) := parseK_eq (of_decide_eq_true (by kernel_rfl)) (by kernel_rfl)
theorem parse_B2 : parseF exB2 = (zP, 14, 190) := parseK_eq (of_decide_eq_true (by kernel_rfl)) (by kernel_rfl)
theorem parse_B3 : parseF exB3 = (zP, 24, 190) := parseK_eq (of_decide_eq_true (by kernel_rfl)) (by kernel_rfl)
theorem parse_B4 : parseF exB4 = (zP, 35, 190) := parseK_eq (of_decide_eq_true (by kernel_rfl)) (by kernel_rfl)
theorem parse_S : parseF exS = (exQ, 0, 0) := parseK_eq (of_decide_eq_true (by kernel_rfl)) (by kernel_rfl)
theorem parse_W : parseF exW = (exP, 0, 0) := parseK_eq (of_decide_eq_true (by kernel_rfl)) (by kernel_rfl)
theorem print_W : printF exP = (exW, 0) := by
 rw [printF_yes (by kernel_rfl), ← joinK_eq (by kernel_rfl)]
 kernel_rfl
theorem print_T : printF exQ = (exT0, 0) := by
 rw [printF_yes (by kernel_rfl), ← joinK_eq (by kernel_rfl)]
 kernel_rfl
theorem print_Z : printF zP = ([], 190) := printF_no (by
 have : wrP zP = false := by kernel_rfl
 rw [this]
 decide)
end Go.Proofs.YtmdakolcndpjeaaGreatDoor
end

section
namespace Go.Proofs.YtmdakolcndpjeaaGreatDoor
open Go.AE Go.Lex Go.Pol Go.Syn
theorem lexF_valid (src : List UInt8) : Valid (lexF src).1 := by
 unfold lexF
 split
 ·exact valid_nil
 ·split
  ·rename_i l h
   exact lex_valid src.length src 0 l (Nat.le_refl _) h
  ·exact valid_nil
theorem parse_inv {src : List UInt8} (h : (parseF src).2.2 = 0) : ∃ p r, (lexF src).2.2 = 0 ∧ wholeP ((lexF src).1.length + 1) (lexF src).1 = .ok p r ∧ parseF src = (p, 0, 0) := by
 unfold parseF at h ⊢
 by_cases he : (lexF src).2.2 = 0
 ·rw [if_pos he] at h ⊢
  cases w : wholeP ((lexF src).1.length + 1) (lexF src).1 with
  | ok p r => exact ⟨p, r, he, rfl, rfl⟩
  | bad r => rw [w] at h; cases h
 ·rw [if_neg he] at h
  exact absurd h he
theorem parse_of_lex {s : List UInt8} {m : List Tk} (h : lexR s 0 = .ok m) (hs : s.length ≤ 65536) : parseF s = match wholeP (m.length + 1) m with | .ok p _ => (p, 0, 0) | .bad r => (zP, failAt (s.length : Int) r, 190) := by
 have hF : lexF s = (m, 0, 0) := by unfold lexF; rw [if_neg (by omega), h]
 unfold parseF
 rw [hF]
 rfl
theorem change_plain {src : List UInt8} {o : Tk} {i : Nat} (h : (parseF src).2.2 = 0) (hi : i < (lexF src).1.length) (ho : validB o = true) (hl : (joinS ((lexF src).1.set i o)).length ≤ 65536) :
 ((parseF (joinS ((lexF src).1.set i o))).2.2 = 0 ∧ (parseF (joinS ((lexF src).1.set i o))).2.1 = 0) ∨
 ((parseF (joinS ((lexF src).1.set i o))).2.2 = 190 ∧ ((joinS (((lexF src).1.set i o).take i)).length : Int) ≤ (parseF (joinS ((lexF src).1.set i o))).2.1 ∧ (parseF (joinS ((lexF src).1.set i o))).2.1 ≤ ((joinS ((lexF src).1.set i o)).length : Int)) := by
 obtain ⟨p, r, he, w, -⟩ := parse_inv h
 have hr := (whole_inv w).1
 rw [hr] at w
 have hv : Valid ((lexF src).1.set i o) := fun t ht => by
  rcases List.mem_or_eq_of_mem_set ht with q | q
  ·exact lexF_valid src t q
  ·rw [q]; exact ho
 obtain ⟨k, h1, h2, h3⟩ := change_law w hi hv
 rw [parse_of_lex h1 hl, h2]
 cases e : wholeP ((lexF src).1.length + 1) k with
 | ok y s => exact .inl ⟨rfl, rfl⟩
 | bad s => exact .inr ⟨rfl, h3 s e⟩
end Go.Proofs.YtmdakolcndpjeaaGreatDoor
end

section
namespace Go.Proofs.YtmdakolcndpjeaaGreatDoor
open Go.AE Go.Lex Go.Pol Go.Syn
theorem rs20 : Tryz.f20.results.toList = [.cell 2 26] := by kernel_rfl
theorem rs27 : Tryz.f27.results.toList = [.cell 0 28] := by kernel_rfl
theorem rs10 : Tryz.f10.results.toList = [.tmp 0] := by kernel_rfl
def rSome (s : List UInt8) : List AV := row5 1 0 0 s .nil 0 []
theorem row_rSome (s : List UInt8) : Row (someX s) (rSome s) := .mk _ _ _ _ _ _ _ _ rfl (fun i hi => absurd hi (Nat.not_lt_zero i)) (Nat.zero_le _) (fun i x r h => by simp at h)
def rWt : List AV := row5 2 3 0 sClerk .nil 0 []
theorem row_rWt : Row exWeight rWt := .mk _ _ _ _ _ _ _ _ rfl (fun i hi => absurd hi (Nat.not_lt_zero i)) (Nat.zero_le _) (fun i x r h => by simp at h)
def rOne : List AV := row5 3 1 0 [] .tight 5 [rSome sChief]
theorem rows_rOne : Pol.Rows [someX sChief] [rSome sChief] := Pol.Rows.snoc Pol.Rows.nil (row_rSome _)
theorem row_rOne : Row exOne rOne := .mk _ _ _ _ _ _ _ _ rows_rOne.1 (fun _ _ => rfl) (by simp) rows_rOne.2
def rUp : List AV := row5 4 100 0 [] .tight 5 [rSome sClerk, rOne]
theorem rows_rUp : Pol.Rows [someX sClerk, exOne] [rSome sClerk, rOne] := Pol.Rows.snoc (Pol.Rows.snoc Pol.Rows.nil (row_rSome _)) row_rOne
theorem row_rUp : Row exUpto rUp := .mk _ _ _ _ _ _ _ _ rows_rUp.1 (fun _ _ => rfl) (by simp) rows_rUp.2
def rTwo : List AV := row5 3 2 0 [] .tight 5 [rSome sChief, rWt, rUp]
theorem rows_rTwo : Pol.Rows [someX sChief, exWeight, exUpto] [rSome sChief, rWt, rUp] := Pol.Rows.snoc (Pol.Rows.snoc (Pol.Rows.snoc Pol.Rows.nil (row_rSome _)) row_rWt) row_rUp
theorem row_rTwo : Row exTwo rTwo := .mk _ _ _ _ _ _ _ _ rows_rTwo.1 (fun _ _ => rfl) (by simp) rows_rTwo.2
def exPT : PT := ⟨.tight, 1, .tight, 1, .tight, 8, [rrow ⟨sLoan, 0, 60, exTwo⟩ .tight 5 [rSome sChief, rWt, rUp]], .nil, 0, []⟩
theorem exP_ok : POk exP exPT := ⟨RRows.snoc RRows.nil (RRow.mk (x := ⟨sLoan, 0, 60, exTwo⟩) row_rTwo), row_rSome _, fun _ _ => rfl, fun _ _ => rfl, fun _ _ => rfl, by decide, by decide, by decide⟩
theorem exQ_ok : POk exQ zT := ⟨RRows.nil, row_rSome _, fun i hi => absurd hi (Nat.not_lt_zero i), fun i hi => absurd hi (Nat.not_lt_zero i), fun i hi => absurd hi (Nat.not_lt_zero i), by decide, by decide, by decide⟩
theorem bs20 (s : List UInt8) : buildEv Tryz.prog 26 [(0, .v (.int .i64 1)), (3, .v (.string (bs s)))] = some (.agg (rSome s)) := by kernel_rfl
theorem zc26' : (zeroA Tryz.prog 26).bind AV.cellsO = some (row5 0 0 0 [] .nil 0 []) := by kernel_rfl
noncomputable abbrev W0 := whole Tryz.prog Gt prims0
theorem lawSome0 (s : List UInt8) (h : Heap) : W0.call 20 [.v (.string (bs s))] h = some (.ret (.agg (rSome s)), h.push (rSome s)) := by
 have a26 := ag26; have z26 := zc26'; have s26 := sz26
 have l1 : ∀ (h : Heap) (b : Nat), h.boxes[b]? = some (rSome s) → loadEv Tryz.prog Gt h 26 (.ptr (.box b) 0) = some (.agg (rSome s)) := fun h b hb => load_agg ag26 sz26 hb (Nat.le_refl 5)
 have st1 : ∀ (h : Heap) (b : Nat), h.boxes[b]? = some (row5 0 0 0 [] .nil 0 []) → storeEv Tryz.prog h 26 (.ptr (.box b) 0) (.agg (rSome s)) = some (h.put b (rSome s)) := fun h b hb => store_box (off := 0) (cs := row5 0 0 0 [] .nil 0 []) (xs := rSome s) rfl sz26 hb rfl (Nat.le_refl 5)
 refine call_of_run rfl Tryz.func20 rfl ?_
 repeat' (first | simp (config := { maxSteps := 4000000 }) (disch := first | exact dZ | fail) only [goS, append_gt, append_gt_yes, plainEv, resultsEv, resultListEv, reduceIte, Nat.reduceEqDiff, goT, beq_self_eq_true, goH, goU, rs20, bs20, l1, st1, put_push_eq, *] | ((first | refine G_d ?_ ?_ | refine G_n ?_ ?_ | refine B_d ?_ ?_ | refine B_n ?_ ?_) <;> (intro _; try (exfalso; omega))) | refine run_draw (by kernel_rfl) ?_ | ((first | refine G_m ?_ ?_ | refine B_m ?_ ?_ | refine G_b ?_ ?_ | refine B_b ?_ ?_) <;> intro _))
theorem lawSome_ev (s : List UInt8) (h : Heap) : W.call 20 [.v (.string (bs s))] h = some (.ret (.agg (rSome s)), h) := by
 rw [whole_call]; rfl
theorem ok20 {V : World} (L : Laid V) (hp : Prog Tryz.prog) : PrimOk Tryz.prog Gt V 20 pSome := by
 refine prim_of_call (prims := prims0) hp (fun g p h => prims0_ok L g p h) (body_of Tryz.func20 (by kernel_rfl)) fun args h x h' he => ?_
 unfold pSome at he
 split at he
 ·rename_i s
  injection he with he
  injection he with h1 h2
  subst h1; subst h2
  have hc := lawSome0 s.data.toList h
  rw [← bs_of] at hc
  refine ⟨h.push (rSome s.data.toList), ?_, ?_, rfl, rfl, rfl⟩
  ·rw [hc]
   show some (Res.ret (.agg (rSome s.data.toList)), _) = _
   unfold rSome row5
   rw [← bs_of]
  ·show (h.boxes ++ [rSome s.data.toList]).take h.boxes.length = h.boxes
   rw [List.take_left]
 ·cases he
theorem prims_ok {V : World} (L : Laid V) (hp : Prog Tryz.prog) : ∀ g p, prims g = some p → PrimOk Tryz.prog Gt V g p := by
 intro g p h
 unfold prims at h
 split at h
 ·injection h with h; subst h; exact ok103 V
 ·injection h with h; subst h; exact ok19 V
 ·injection h with h; subst h; exact ok45 L
 ·injection h with h; subst h; exact ok102 L
 ·injection h with h; subst h; exact ok46 V
 ·injection h with h; subst h; exact ok138 V
 ·injection h with h; subst h; exact ok122 V
 ·injection h with h; subst h; exact ok121 V
 ·injection h with h; subst h; exact ok21 V
 ·injection h with h; subst h; exact ok20 L hp
 ·cases h
theorem e_cl : rSome [99, 108, 101, 114, 107] = rSome sClerk := rfl
theorem e_ch : rSome [99, 104, 105, 101, 102] = rSome sChief := rfl
def rr1 : List AV := rrow ⟨sLoan, 0, 60, exTwo⟩ .tight 5 [rSome sChief, rWt, rUp]
theorem b1 : buildSliceEv Tryz.prog 24 1 [(0, .agg (rSome sChief))] = some (.list .tight 5 [rSome sChief]) := by kernel_rfl
theorem b2 : buildEv Tryz.prog 26 [(0, .v (.int .i64 3)), (1, .v (.int .i64 1)), (4, .list .tight 5 [rSome sChief])] = some (.agg rOne) := by kernel_rfl
theorem b3 : buildSliceEv Tryz.prog 24 2 [(0, .agg (rSome sClerk)), (1, .agg rOne)] = some (.list .tight 5 [rSome sClerk, rOne]) := by kernel_rfl
theorem b4 : buildEv Tryz.prog 26 [(0, .v (.int .i64 4)), (1, .v (.int .i64 100)), (4, .list .tight 5 [rSome sClerk, rOne])] = some (.agg rUp) := by kernel_rfl
theorem b5 : buildEv Tryz.prog 26 [(0, .v (.int .i64 2)), (1, .v (.int .i64 3)), (3, .v (.string (bs [99, 108, 101, 114, 107])))] = some (.agg rWt) := by kernel_rfl
theorem b6 : buildSliceEv Tryz.prog 24 3 [(0, .agg (rSome sChief)), (1, .agg rWt), (2, .agg rUp)] = some (.list .tight 5 [rSome sChief, rWt, rUp]) := by kernel_rfl
theorem b7 : buildEv Tryz.prog 26 [(0, .v (.int .i64 3)), (1, .v (.int .i64 2)), (4, .list .tight 5 [rSome sChief, rWt, rUp])] = some (.agg rTwo) := by kernel_rfl
theorem b8 : buildSliceEv Tryz.prog 22 2 [(0, .v (.string (bs [99, 108, 101, 114, 107]))), (1, .v (.string (bs [99, 104, 105, 101, 102])))] = some (.list .tight 1 (strs [sClerk, sChief])) := by kernel_rfl
theorem b9 : buildSliceEv Tryz.prog 22 1 [(0, .v (.string (bs [108, 111, 97, 110])))] = some (.list .tight 1 (strs [sLoan])) := by kernel_rfl
theorem b10 : buildEv Tryz.prog 62 [(0, .v (.string (bs [108, 111, 97, 110]))), (2, .v (.int .i64 60)), (3, .agg rTwo)] = some (.agg rr1) := by kernel_rfl
theorem b11 : buildSliceEv Tryz.prog 23 1 [(0, .agg rr1)] = some (.list .tight 8 [rr1]) := by kernel_rfl
theorem b12 : buildEv Tryz.prog 28 [(0, .v (.string (bs [98, 97, 110, 107]))), (5, .v (.int .i64 3)), (2, .list .tight 1 (strs [sClerk, sChief])), (1, .list .tight 1 (strs [sLoan])), (3, .list .tight 8 [rr1]), (4, .agg (rSome sChief))] = some (.agg (prow exP exPT)) := by kernel_rfl
section
variable {h : Heap} {b : Nat}
theorem lOne (hb : h.boxes[b]? = some rOne) : loadEv Tryz.prog Gt h 26 (.ptr (.box b) 0) = some (.agg rOne) := load_agg ag26 sz26 hb (Nat.le_refl 5)
theorem lWt (hb : h.boxes[b]? = some rWt) : loadEv Tryz.prog Gt h 26 (.ptr (.box b) 0) = some (.agg rWt) := load_agg ag26 sz26 hb (Nat.le_refl 5)
theorem lUp (hb : h.boxes[b]? = some rUp) : loadEv Tryz.prog Gt h 26 (.ptr (.box b) 0) = some (.agg rUp) := load_agg ag26 sz26 hb (Nat.le_refl 5)
theorem lTwo (hb : h.boxes[b]? = some rTwo) : loadEv Tryz.prog Gt h 26 (.ptr (.box b) 0) = some (.agg rTwo) := load_agg ag26 sz26 hb (Nat.le_refl 5)
theorem s26z {r : List AV} (hc : (AV.agg r).cellsO = some r) (hr : r.length = 5) (hb : h.boxes[b]? = some (row5 0 0 0 [] .nil 0 [])) : storeEv Tryz.prog h 26 (.ptr (.box b) 0) (.agg r) = some (h.put b r) := by
 have := store_box (P := Tryz.prog) (t := 26) (x := .agg r) (off := 0) (cs := row5 0 0 0 [] .nil 0 []) (xs := r) hc sz26 hb hr (Nat.le_refl 5)
 rw [this]
 congr 2
 match r, hr with
 | [_, _, _, _, _], _ => rfl
end
theorem sOne : sameAV (.agg rOne) (.agg rOne) = true := by kernel_rfl
theorem sWt : sameAV (.agg rWt) (.agg rWt) = true := by kernel_rfl
theorem sUp : sameAV (.agg rUp) (.agg rUp) = true := by kernel_rfl
theorem tkr : (rOne.drop 0).take 5 = rOne ∧ (rWt.drop 0).take 5 = rWt ∧ (rUp.drop 0).take 5 = rUp ∧ (rTwo.drop 0).take 5 = rTwo := ⟨rfl, rfl, rfl, rfl⟩
theorem rcell : (AV.agg rOne).cellsO = some rOne ∧ (AV.agg rWt).cellsO = some rWt ∧ (AV.agg rUp).cellsO = some rUp ∧ (AV.agg rTwo).cellsO = some rTwo := ⟨rfl, rfl, rfl, rfl⟩
theorem rlen : rOne.length = 5 ∧ rWt.length = 5 ∧ rUp.length = 5 ∧ rTwo.length = 5 := ⟨rfl, rfl, rfl, rfl⟩
theorem lawDecl_ev (h : Heap) : Says W 27 [] h (.ret (.agg (prow exP exPT))) := by
 have a26 := ag26; have a28 := ag28; have z28 := zc28; have z26 := zc26'; have s28 := sz28; have s26 := sz26
 obtain ⟨q1, q2, q3, q4⟩ := rlen
 obtain ⟨r1, r2, r3, r4⟩ := rcell
 refine call_ex rfl Tryz.func27 rfl ?_
 repeat' (first | simp (config := { maxSteps := 4000000 }) (disch := first | exact dZ | fail) only [goS, append_gt, append_gt_yes, plainEv, resultsEv, resultListEv, reduceIte, Nat.reduceEqDiff, goT, beq_self_eq_true, goH, goU, rs27, lawSome_ev, e_cl, e_ch, b1, b2, s26z, put_push_eq, push_len, *] | (refine dX ?_ ?_ <;> (intro _; try (exfalso; omega))) | (refine dY ?_ ?_ <;> intro _) | fail)
 refine run_draw_calm [0] [(1, 4)] (by kernel_rfl) ?_ ?_ ?_
 ·intro k hk
  simp only [List.mem_singleton] at hk
  subst hk
  refine calm_of (x := .agg (rSome [99, 108, 101, 114, 107])) rfl rfl ?_ ?_
  ·simp only [List.take_succ_cons, List.take_zero]
   repeat' (first | simp (config := { maxSteps := 4000000 }) (disch := first | exact dZ | fail) only [goS, append_gt, append_gt_yes, plainEv, resultsEv, resultListEv, reduceIte, Nat.reduceEqDiff, goT, beq_self_eq_true, goH, goU, tkr, *] | (refine dX ?_ ?_ <;> (intro _; try (exfalso; omega))) | (refine dY ?_ ?_ <;> intro _) | fail)
   refine ⟨by trivial, fun hm => ?_⟩
   exact lawSome_ev _ hm
  ·repeat' (first | simp (config := { maxSteps := 4000000 }) (disch := first | exact dZ | fail) only [goS, append_gt, append_gt_yes, plainEv, resultsEv, resultListEv, reduceIte, Nat.reduceEqDiff, goT, beq_self_eq_true, goH, goU, lawSome_ev, e_cl, e_ch, tkr, lOne, b3, b4, s26z, put_push_eq, push_len, *] | (refine dX ?_ ?_ <;> (intro _; try (exfalso; omega))) | (refine dY ?_ ?_ <;> intro _) | fail)
 ·intro pr hp
  simp only [List.mem_singleton] at hp
  subst hp
  refine stable_before (x := .ptr (.box (h.boxes.length + 1)) 0) (v := .agg rOne) (by kernel_rfl) rfl rfl rfl (by kernel_rfl) sOne ?_ ?_
  ·simp only [List.take_succ_cons, List.take_zero]
   repeat' (first | simp (config := { maxSteps := 4000000 }) (disch := first | exact dZ | fail) only [goS, append_gt, append_gt_yes, plainEv, resultsEv, resultListEv, reduceIte, Nat.reduceEqDiff, goT, beq_self_eq_true, goH, goU, tkr, lawSome_ev, lOne, push_len, *] | (refine dX ?_ ?_ <;> (intro _; try (exfalso; omega))) | (refine dY ?_ ?_ <;> intro _) | fail)
   exact ⟨by trivial, by trivial, by trivial⟩
  ·simp only [List.take_succ_cons, List.take_zero]
   repeat' (first | simp (config := { maxSteps := 4000000 }) (disch := first | exact dZ | fail) only [goS, append_gt, append_gt_yes, plainEv, resultsEv, resultListEv, reduceIte, Nat.reduceEqDiff, goT, beq_self_eq_true, goH, goU, tkr, lawSome_ev, e_cl, lOne, b3, b4, push_len, *] | (refine dX ?_ ?_ <;> (intro _; try (exfalso; omega))) | (refine dY ?_ ?_ <;> intro _) | fail)
   exact ⟨by trivial, by trivial⟩
 repeat' (first | simp (config := { maxSteps := 4000000 }) (disch := first | exact dZ | fail) only [goS, append_gt, append_gt_yes, plainEv, resultsEv, resultListEv, reduceIte, Nat.reduceEqDiff, goT, beq_self_eq_true, goH, goU, rs27, lawSome_ev, e_cl, e_ch, tkr, lOne, b3, b4, b5, s26z, put_push_eq, push_len, *] | (refine dX ?_ ?_ <;> (intro _; try (exfalso; omega))) | (refine dY ?_ ?_ <;> intro _) | fail)
 refine run_draw_calm [0] [(1, 5), (2, 5)] (by kernel_rfl) ?_ ?_ ?_
 ·intro k hk
  simp only [List.mem_singleton] at hk
  subst hk
  refine calm_of (x := .agg (rSome [99, 104, 105, 101, 102])) rfl rfl ?_ ?_
  ·simp only [List.take_succ_cons, List.take_zero]
   repeat' (first | simp (config := { maxSteps := 4000000 }) (disch := first | exact dZ | fail) only [goS, append_gt, append_gt_yes, plainEv, resultsEv, resultListEv, reduceIte, Nat.reduceEqDiff, goT, beq_self_eq_true, goH, goU, tkr, *] | (refine dX ?_ ?_ <;> (intro _; try (exfalso; omega))) | (refine dY ?_ ?_ <;> intro _) | fail)
   refine ⟨by trivial, fun hm => ?_⟩
   exact lawSome_ev _ hm
  ·repeat' (first | simp (config := { maxSteps := 4000000 }) (disch := first | exact dZ | fail) only [goS, append_gt, append_gt_yes, plainEv, resultsEv, resultListEv, reduceIte, Nat.reduceEqDiff, goT, beq_self_eq_true, goH, goU, lawSome_ev, e_cl, e_ch, tkr, lWt, lUp, b6, b7, s26z, put_push_eq, push_len, *] | (refine dX ?_ ?_ <;> (intro _; try (exfalso; omega))) | (refine dY ?_ ?_ <;> intro _) | fail)
 ·intro pr hp
  simp only [List.mem_cons, List.not_mem_nil, or_false] at hp
  rcases hp with rfl | rfl
  ·refine stable_before (x := .ptr (.box (h.boxes.length + 1 + 1 + 1)) 0) (v := .agg rWt) (by kernel_rfl) rfl rfl rfl (by kernel_rfl) sWt ?_ ?_
   ·simp only [List.take_succ_cons, List.take_zero]
    repeat' (first | simp (config := { maxSteps := 4000000 }) (disch := first | exact dZ | fail) only [goS, append_gt, append_gt_yes, plainEv, resultsEv, resultListEv, reduceIte, Nat.reduceEqDiff, goT, beq_self_eq_true, goH, goU, tkr, lawSome_ev, lWt, push_len, *] | (refine dX ?_ ?_ <;> (intro _; try (exfalso; omega))) | (refine dY ?_ ?_ <;> intro _) | fail)
    exact ⟨by trivial, by trivial, by trivial⟩
   ·simp only [List.take_succ_cons, List.take_zero]
    repeat' (first | simp (config := { maxSteps := 4000000 }) (disch := first | exact dZ | fail) only [goS, append_gt, append_gt_yes, plainEv, resultsEv, resultListEv, reduceIte, Nat.reduceEqDiff, goT, beq_self_eq_true, goH, goU, tkr, lawSome_ev, e_ch, lWt, lUp, b6, b7, push_len, *] | (refine dX ?_ ?_ <;> (intro _; try (exfalso; omega))) | (refine dY ?_ ?_ <;> intro _) | fail)
    exact ⟨by trivial, by trivial⟩
  ·refine stable_before (x := .ptr (.box (h.boxes.length + 1 + 1)) 0) (v := .agg rUp) (by kernel_rfl) rfl rfl rfl (by kernel_rfl) sUp ?_ ?_
   ·simp only [List.take_succ_cons, List.take_zero]
    repeat' (first | simp (config := { maxSteps := 4000000 }) (disch := first | exact dZ | fail) only [goS, append_gt, append_gt_yes, plainEv, resultsEv, resultListEv, reduceIte, Nat.reduceEqDiff, goT, beq_self_eq_true, goH, goU, tkr, lawSome_ev, lUp, lWt, push_len, *] | (refine dX ?_ ?_ <;> (intro _; try (exfalso; omega))) | (refine dY ?_ ?_ <;> intro _) | fail)
    exact ⟨by trivial, by trivial, by trivial⟩
   ·simp only [List.take_succ_cons, List.take_zero]
    repeat' (first | simp (config := { maxSteps := 4000000 }) (disch := first | exact dZ | fail) only [goS, append_gt, append_gt_yes, plainEv, resultsEv, resultListEv, reduceIte, Nat.reduceEqDiff, goT, beq_self_eq_true, goH, goU, tkr, lawSome_ev, e_ch, lWt, lUp, b6, b7, push_len, *] | (refine dX ?_ ?_ <;> (intro _; try (exfalso; omega))) | (refine dY ?_ ?_ <;> intro _) | fail)
    exact ⟨by trivial, by trivial⟩
 repeat' (first | simp (config := { maxSteps := 4000000 }) (disch := first | exact dZ | fail) only [goS, append_gt, append_gt_yes, plainEv, resultsEv, resultListEv, reduceIte, Nat.reduceEqDiff, goT, beq_self_eq_true, goH, goU, rs27, lawSome_ev, e_cl, e_ch, tkr, lWt, lUp, b6, b7, s26z, put_push_eq, push_len, *] | (refine dX ?_ ?_ <;> (intro _; try (exfalso; omega))) | (refine dY ?_ ?_ <;> intro _) | fail)
 refine run_draw_calm [5] [] (by kernel_rfl) ?_ (fun p hp => nomatch hp) ?_
 ·intro k hk
  simp only [List.mem_singleton] at hk
  subst hk
  refine calm_of (x := .agg (rSome [99, 104, 105, 101, 102])) rfl rfl ?_ ?_
  ·simp only [List.take_succ_cons, List.take_zero]
   repeat' (first | simp (config := { maxSteps := 4000000 }) (disch := first | exact dZ | fail) only [goS, append_gt, append_gt_yes, plainEv, resultsEv, resultListEv, reduceIte, Nat.reduceEqDiff, goT, beq_self_eq_true, goH, goU, tkr, lTwo, b8, b9, b10, b11, *] | (refine dX ?_ ?_ <;> (intro _; try (exfalso; omega))) | (refine dY ?_ ?_ <;> intro _) | fail)
   refine ⟨by trivial, fun hm => ?_⟩
   exact lawSome_ev _ hm
  ·repeat' (first | simp (config := { maxSteps := 4000000 }) (disch := first | exact dZ | fail) only [goS, append_gt, append_gt_yes, plainEv, resultsEv, resultListEv, reduceIte, Nat.reduceEqDiff, goT, beq_self_eq_true, goH, goU, lawSome_ev, e_cl, e_ch, tkr, lTwo, b8, b9, b10, b11, b12, st28, s26z, put_push_eq, push_len, *] | (refine dX ?_ ?_ <;> (intro _; try (exfalso; omega))) | (refine dY ?_ ?_ <;> intro _) | fail)
 repeat' (first | simp (config := { maxSteps := 4000000 }) (disch := first | exact dZ | fail) only [goS, append_gt, append_gt_yes, plainEv, resultsEv, resultListEv, reduceIte, Nat.reduceEqDiff, goT, beq_self_eq_true, goH, goU, rs27, lawSome_ev, e_cl, e_ch, tkr, lTwo, b8, b9, b10, b11, b12, st28, load28, put_push_eq, put_push_ne, push_len, *] | (refine dX ?_ ?_ <;> (intro _; try (exfalso; omega))) | (refine dY ?_ ?_ <;> intro _) | fail)
 exact ⟨_, rfl, (((((Ext.push _ _).trans (.push _ _)).trans (.push _ _)).trans (.push _ _)).trans (.push _ _))⟩
end Go.Proofs.YtmdakolcndpjeaaGreatDoor
end

section
namespace Go.Proofs.YtmdakolcndpjeaaGreatDoor
open Go.AE
def lawTys : List TypeId := [3, 4, 5, 9, 22, 23, 24, 26, 28, 38, 43, 62]
end Go.Proofs.YtmdakolcndpjeaaGreatDoor
end

section
namespace Go.Proofs.YtmdakolcndpjeaaGreatDoor
open Go.AE Go.Lex Go.Pol Go.Syn
section
variable {P : Program} {G : Nat → Option (List AV)} {R : Rec}
theorem stable_before_g {ops : Array Oper} {e : Env} {h : Heap} {i j : Nat} {o : Oper} {t : TypeId} {a : Operand} (hap : apartOk ops i j = true) (ho : ops[i]? = some o) (hop : o.op = .load t a)
 (hj : (ops[j]?).map (fun o => classOf o.op) = some .acts) {x v : AV} (hv : sameAV v v = true)
 (h1 : RunL P G R ops (ops.toList.take i) e h (fun q er hr => q = .normal ∧ wantedA ops er o = some true ∧ er.eval a = x ∧ loadEv P G hr t x = some v))
 (h2 : RunL P G R ops (ops.toList.take (j + 1)) e h (fun q _ hm => q = .normal ∧ loadEv P G hm t x = some v)) : stableOk P G R ops e h i j = true := by
 have hi : i < ops.size := by
  rcases Nat.lt_or_ge i ops.size with hh | hh
  ·exact hh
  ·rw [Array.getElem?_eq_none hh] at ho; cases ho
 have hjs : j < ops.size := by
  rcases Nat.lt_or_ge j ops.size with hh | hh
  ·exact hh
  ·rw [Array.getElem?_eq_none hh] at hj; cases hj
 have hc : (ops[i]?).map (fun o => classOf o.op) = some .reads := by rw [ho]; simp only [Option.map_some, hop]; rfl
 unfold stableOk
 rw [hap, hc, hj]
 simp only [Bool.true_and]
 unfold stable
 rw [ho, opsEv_take (by omega), opsEv_take (by omega)]
 obtain ⟨q1, er, hr, e1, rfl, e0, e2, e3⟩ := h1
 obtain ⟨q2, em, hm, f1, rfl, f2⟩ := h2
 rw [e1, f1]
 simp only [e0, hop, e2, e3, f2, hv]
end
def exRow (s : List UInt8) (a : Int) : List AV := [.v (.string (bs s)), .v (.int .i64 a)]
def exRows : List (List AV) := [exRow exB0 0, exRow exB1 7, exRow exB2 14, exRow exB3 24, exRow exB4 35]
theorem bx0 (s : List UInt8) (a : Int) : buildEv Tryz.prog 57 [(0, .v (.string (bs s))), (1, .v (.int .i64 a))] = some (.agg (exRow s a)) := by kernel_rfl
theorem bx5 : buildSliceEv Tryz.prog 58 5 [(0, .agg (exRow [] 0)), (1, .agg (exRow [112, 111, 108, 105, 99, 121, 32, 111, 108, 100, 59] 7)), (2, .agg (exRow [112, 111, 108, 105, 99, 121, 32, 112, 59, 109, 111, 100, 101, 32, 115, 111, 109, 101, 59] 14)), (3, .agg (exRow [112, 111, 108, 105, 99, 121, 32, 112, 59, 109, 111, 100, 101, 32, 111, 108, 100, 59, 99, 104, 97, 110, 103, 101] 24)), (4, .agg (exRow [112, 111, 108, 105, 99, 121, 32, 112, 59, 32, 109, 111, 100, 101, 32, 111, 108, 100, 59, 32, 99, 104, 97, 110, 103, 101, 32, 61, 32, 50, 32, 111, 102, 32, 40, 41, 59] 35))] = some (.list .tight 2 exRows) := by kernel_rfl
theorem ex_get (i : Nat) (hi : i < 5) : ∃ s a, exRows[i]? = some (exRow s a) ∧ (parseF s).2.1 = a ∧ (parseF s).2.2 = 190 ∧ s.length ≤ 100 := by
 have : i = 0 ∨ i = 1 ∨ i = 2 ∨ i = 3 ∨ i = 4 := by omega
 rcases this with rfl | rfl | rfl | rfl | rfl
 ·exact ⟨exB0, 0, rfl, by rw [parse_B0], by rw [parse_B0], by decide⟩
 ·exact ⟨exB1, 7, rfl, by rw [parse_B1], by rw [parse_B1], by decide⟩
 ·exact ⟨exB2, 14, rfl, by rw [parse_B2], by rw [parse_B2], by decide⟩
 ·exact ⟨exB3, 24, rfl, by rw [parse_B3], by rw [parse_B3], by decide⟩
 ·exact ⟨exB4, 35, rfl, by rw [parse_B4], by rw [parse_B4], by decide⟩
theorem exRows_len : exRows.length = 5 := rfl
theorem ag57 : isAggB Tryz.prog 57 = some true := by kernel_rfl
theorem sz57 : sizeB Tryz.prog 57 = some 2 := by kernel_rfl
theorem zc57 : (zeroA Tryz.prog 57).bind AV.cellsO = some (exRow [] 0) := by kernel_rfl
theorem fa57_0 (r : Ref) (off : Nat) : fieldAddrEv Tryz.prog 57 (.ptr r off) 0 = some (.ptr r (off + 0)) := by kernel_rfl
theorem fa57_1 (r : Ref) (off : Nat) : fieldAddrEv Tryz.prog 57 (.ptr r off) 1 = some (.ptr r (off + 1)) := by kernel_rfl
theorem ex_len (s : List UInt8) (a : Int) : ((exRow s a).drop 0).length = 2 := rfl
theorem ex_all (s : List UInt8) (a : Int) : ((exRow s a).drop 0).take 2 = exRow s a := rfl
theorem ex_0 (s : List UInt8) (a : Int) : ((exRow s a).drop 0).head? = some (.v (.string (bs s))) := rfl
theorem ex_1 (s : List UInt8) (a : Int) : ((exRow s a).drop 1).head? = some (.v (.int .i64 a)) := rfl
theorem st57 {h : Heap} {c : Nat} {s s' : List UInt8} {a a' : Int} (hb : h.boxes[c]? = some (exRow s a)) : storeEv Tryz.prog h 57 (.ptr (.box c) 0) (.agg (exRow s' a')) = some (h.put c (exRow s' a')) := store_box (off := 0) (cs := exRow s a) (xs := exRow s' a') rfl sz57 hb rfl (Nat.le_refl 2)
theorem ld57_0 {h : Heap} {c : Nat} {s : List UInt8} {a : Int} (hb : h.boxes[c]? = some (exRow s a)) : loadEv Tryz.prog Gt h 9 (.ptr (.box c) 0) = some (.v (.string (bs s))) := by rw [load_one ag9 hb]; rfl
theorem ld57_1 {h : Heap} {c : Nat} {s : List UInt8} {a : Int} (hb : h.boxes[c]? = some (exRow s a)) : loadEv Tryz.prog Gt h 3 (.ptr (.box c) 1) = some (.v (.int .i64 a)) := by rw [load_one ag3 hb]; rfl
theorem bq : buildEv Tryz.prog 28 [(0, .v (.string (bs [112]))), (5, .v (.int .i64 2)), (4, .agg (rSome sClerk))] = some (.agg (prow exQ zT)) := by kernel_rfl
theorem lenW : exW.length ≤ 1000 := of_decide_eq_true (by kernel_rfl)
theorem sane_ev (h : Heap) (hok : okHeap h = true) : Says W 10 [] h (.ret (.v (.bool true))) := by
 have u58 := Tryz.underlying58; have a57 := ag57; have s57 := sz57; have z57 := zc57; have a28 := ag28; have s28 := sz28; have z28 := zc28; have a3 := ag3; have a9 := ag9; have a31 := ag31'
 have xl := exRows_len
 refine call_ex rfl Tryz.func10 rfl ?_
 repeat' (first | simp (config := { maxSteps := 4000000 }) (disch := first | exact dZ | fail) only [goS, append_gt, append_gt_yes, plainEv, resultsEv, resultListEv, reduceIte, Nat.reduceEqDiff, goT, beq_self_eq_true, goH, goU, rs10, bx0, bx5, *] | (refine dX ?_ ?_ <;> (intro _; try (exfalso; omega))) | (refine dY ?_ ?_ <;> intro _) | fail)
 refine run_loop (fun m e h' => ∃ i : Nat, i ≤ 5 ∧ m = 5 - i ∧ e.get 23 = .list .tight 2 exRows ∧ e.get 24 = .v (.int .i64 5) ∧ e.get 25 = .v (.int .i64 i) ∧ e.defers = [] ∧ Ext h h') ?_ 5 _ _ ?_
 ·rintro m e h' ⟨i, hi, rfl, g1, g2, g3, hd, hx⟩
  by_cases hlt : i < 5
  ·obtain ⟨s, a, hrow, p1, p2, hs⟩ := ex_get i hlt
   have o1 : okHeap (h'.push (exRow s a)) = true := hx.ok hok
   obtain ⟨t, h2, c, x2, -⟩ := parse_ev s (by omega) (h'.push (exRow s a)) o1
   rw [p1, p2] at c
   generalize (parseF s).1 = pp at c
   have b1 := x2.box _ _ (push_last h' (exRow s a))
   have nb := (List.getElem?_eq_some_iff.1 b1).1
   have kx := Keep.mk ((hx.trans (.push _ (exRow s a))).trans (x2.trans (.push _ (prow pp t))))
   have hlt3 : (i : Int) < (exRows.length : Int) := by rw [xl]; omega
   clear hx x2 o1 p1 p2
   repeat' (first | simp (config := { maxSteps := 4000000 }) (disch := first | exact dZ | fail) only [goS, append_gt, append_gt_yes, plainEv, resultsEv, resultListEv, reduceIte, Nat.reduceEqDiff, goT, beq_self_eq_true, goH, goU, rs10, fa57_0, fa57_1, index_list, load_row_agg, Nat.le_refl, ex_len, ex_all, ex_0, ex_1, st57, ld57_0, ld57_1, st28, put_push_eq, push_len, *] | (refine dX ?_ ?_ <;> (intro _; try (exfalso; omega))) | (refine dY ?_ ?_ <;> intro _) | fail)
   refine ⟨5 - (i + 1), by omega, i + 1, by omega, rfl, (by first | trivial | (simp; done) | (simp; omega)), (by first | trivial | (simp; done) | (simp; omega)), (by first | trivial | (simp; done) | (simp; omega)), (by first | trivial | (simp; done) | (simp; omega)), kx.out⟩
  ·have hge : ¬ ((i : Int) < 5) := by omega
   have o0 := hx.ok hok
   obtain ⟨t1, h1, c1, x1, ok1⟩ := parse_ev exS (of_decide_eq_true (by kernel_rfl)) h' o0
   have o1 := x1.ok o0
   obtain ⟨t2, h2, c2, x2, ok2⟩ := parse_ev exW (by have := lenW; omega) (h1.push (prow (parseF exS).1 t1)) o1
   have o2 := x2.ok o1
   rw [parse_S] at c1 ok1 c2 x2
   rw [parse_W] at c2 ok2
   obtain ⟨h3, c3, x3⟩ := lawDecl_ev (h2.push (prow exP t2))
   have o3 := x3.ok o2
   obtain ⟨h4, c4, x4⟩ := print_ev exP exPT exP_ok (of_decide_eq_true (by kernel_rfl)) h3 o3
   have o4 := x4.ok o3
   obtain ⟨h5, c5, x5⟩ := print_ev exQ t1 ok1 (of_decide_eq_true (by kernel_rfl)) h4 o4
   have o5 := x5.ok o4
   obtain ⟨h6, c6, x6⟩ := print_ev zP zT zOk (of_decide_eq_true (by kernel_rfl)) h5 o5
   have o6 := x6.ok o5
   obtain ⟨h7, c7, x7⟩ := same_ev exQ exQ t1 zT ok1 exQ_ok h6
   obtain ⟨h8, c8, x8⟩ := lawDecl_ev h7
   obtain ⟨h9, c9, x9⟩ := same_ev exP exP t2 exPT ok2 exP_ok h8
   rw [print_W] at c4
   rw [print_T] at c5
   rw [print_Z] at c6
   rw [sameP_iff.2 rfl] at c7 c9
   have bq1 := push_last h1 (prow exQ t1)
   have bq2 := x2.box _ _ bq1
   have bq3 := x3.box _ _ (push_old (cs := prow exP t2) bq2)
   have bq4 := x4.box _ _ bq3
   have bq5 := x5.box _ _ bq4
   have bq6 := x6.box _ _ bq5
   have bp2 := push_last h2 (prow exP t2)
   have bp3 := x3.box _ _ bp2
   have bp4 := x4.box _ _ bp3
   have bp5 := x5.box _ _ bp4
   have bp6 := x6.box _ _ bp5
   have bp7 := x7.box _ _ bp6
   have bp8 := x8.box _ _ bp7
   have n4 := (List.getElem?_eq_some_iff.1 bq4).1
   have n6 := (List.getElem?_eq_some_iff.1 bq6).1
   have m7 := (List.getElem?_eq_some_iff.1 bp7).1
   have m8 := (List.getElem?_eq_some_iff.1 bp8).1
   have ks1 := Keep.mk (pol_same ok1)
   have ks2 := Keep.mk (pol_same ok2)
   have kx := Keep.mk ((((((((((hx.trans x1).trans (.push _ (prow exQ t1))).trans x2).trans (.push _ (prow exP t2))).trans x3).trans x4).trans x5).trans x6)).trans ((x7.trans x8).trans x9))
   clear hx x1 x2 x3 x4 x5 x6 x7 x8 x9 ok1 ok2 o0 o1 o2 o3 o4 o5 o6 hok
   simp only [exS, exW, exT0] at c1 c2 c4 c5
   repeat' (first | simp (config := { maxSteps := 4000000 }) (disch := first | exact dZ | fail) only [goS, append_gt, append_gt_yes, plainEv, resultsEv, resultListEv, reduceIte, Nat.reduceEqDiff, goT, beq_self_eq_true, goH, goU, rs10, lawSome_ev, e_cl, load28, st28, put_push_eq, push_len, List.append_eq, List.cons_append, List.nil_append, bz28, *] | (refine dX ?_ ?_ <;> (intro _; try (exfalso; omega))) | (refine dY ?_ ?_ <;> intro _) | fail)
   refine run_draw_but [(0, 1), (5, 6)] (by kernel_rfl) ?_ ?_
   ·intro pr hp
    simp only [List.mem_cons, List.not_mem_nil, or_false] at hp
    rcases hp with rfl | rfl
    ·refine stable_before (x := .ptr (.box h1.boxes.length) 0) (v := .agg (prow exQ t1)) (by kernel_rfl) rfl rfl rfl (by kernel_rfl) ks1.out ?_ ?_
     ·simp only [List.take_succ_cons, List.take_zero]
      repeat' (first | simp (config := { maxSteps := 4000000 }) (disch := first | exact dZ | fail) only [goS, append_gt, append_gt_yes, plainEv, resultsEv, resultListEv, reduceIte, Nat.reduceEqDiff, goT, beq_self_eq_true, goH, goU, load28, *] | (refine dX ?_ ?_ <;> (intro _; try (exfalso; omega))) | (refine dY ?_ ?_ <;> intro _) | fail)
      exact ⟨by trivial, by trivial, by trivial⟩
     ·simp only [List.take_succ_cons, List.take_zero]
      repeat' (first | simp (config := { maxSteps := 4000000 }) (disch := first | exact dZ | fail) only [goS, append_gt, append_gt_yes, plainEv, resultsEv, resultListEv, reduceIte, Nat.reduceEqDiff, goT, beq_self_eq_true, goH, goU, lawSome_ev, load28, *] | (refine dX ?_ ?_ <;> (intro _; try (exfalso; omega))) | (refine dY ?_ ?_ <;> intro _) | fail)
      exact ⟨by trivial, by trivial⟩
    ·refine stable_before_g (x := .ptr (.box h2.boxes.length) 0) (v := .agg (prow exP t2)) (by kernel_rfl) rfl rfl (by kernel_rfl) ks2.out ?_ ?_
     ·simp only [List.take_succ_cons, List.take_zero]
      repeat' (first | simp (config := { maxSteps := 4000000 }) (disch := first | exact dZ | fail) only [goS, append_gt, append_gt_yes, plainEv, resultsEv, resultListEv, reduceIte, Nat.reduceEqDiff, goT, beq_self_eq_true, goH, goU, lawSome_ev, e_cl, bq, load28, push_len, *] | (refine dX ?_ ?_ <;> (intro _; try (exfalso; omega))) | (refine dY ?_ ?_ <;> intro _) | fail)
      refine ⟨by trivial, ?_, by trivial, by trivial⟩
      simp [wantedA, st_get]
     ·simp only [List.take_succ_cons, List.take_zero]
      repeat' (first | simp (config := { maxSteps := 4000000 }) (disch := first | exact dZ | fail) only [goS, append_gt, append_gt_yes, plainEv, resultsEv, resultListEv, reduceIte, Nat.reduceEqDiff, goT, beq_self_eq_true, goH, goU, lawSome_ev, e_cl, bq, load28, push_len, *] | (refine dX ?_ ?_ <;> (intro _; try (exfalso; omega))) | (refine dY ?_ ?_ <;> intro _) | fail)
      exact ⟨by trivial, by trivial⟩
   repeat' (first | simp (config := { maxSteps := 4000000 }) (disch := first | exact dZ | fail) only [goS, append_gt, append_gt_yes, plainEv, resultsEv, resultListEv, reduceIte, Nat.reduceEqDiff, goT, beq_self_eq_true, goH, goU, rs10, lawSome_ev, e_cl, bq, load28, push_len, List.append_eq, List.cons_append, List.nil_append, *] | (refine dX ?_ ?_ <;> (intro _; try (exfalso; omega))) | (refine dY ?_ ?_ <;> intro _) | fail)
   exact ⟨_, rfl, kx.out⟩
 ·refine ⟨0, Nat.zero_le _, rfl, ?_, ?_, ?_, ?_, .refl _⟩ <;> simp only [goS, append_gt, append_gt_yes, plainEv, resultsEv, resultListEv, reduceIte, Nat.reduceEqDiff, goT, beq_self_eq_true, goH] <;> rfl
end Go.Proofs.YtmdakolcndpjeaaGreatDoor
end
