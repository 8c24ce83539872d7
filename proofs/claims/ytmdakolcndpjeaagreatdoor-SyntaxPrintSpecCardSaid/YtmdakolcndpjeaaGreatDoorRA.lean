/-
 Layer 19 in plain Lean: the reference's reader, which takes one mode alone, reads what is written as the program's does.
-/
import Derived.Test.YtmdakolcndpjeaaGreatDoorSC
import Derived.Test.YtmdakolcndpjeaaGreatDoorSI
import Derived.Test.YtmdakolcndpjeaaGreatDoorE4
import Derived.Test.YtmdakolcndpjeaaGreatDoorSB
import Derived.Test.YtmdakolcndpjeaaGreatDoorSJ
set_option maxHeartbeats 64000000
set_option maxRecDepth 100000
set_option linter.unusedSimpArgs false
set_option linter.unusedVariables false
set_option linter.constructorNameAsVariable false
section
namespace Go.Syn
open Go.AE Go.Lex Go.Pol
def modeR (l : List Tk) : PR Int := if isT kOld l = true then .ok 1 l.tail else if isT kNew l = true then .ok 2 l.tail else if isT kBoth l = true then .ok 3 l.tail else (wantT kEither l).bind fun _ r => .ok 4 r
def headR (l : List Tk) : PR (List UInt8 × Int) := (wantT kPolicy l).bind fun _ r => (nameP r).bind fun s r => (wantP [cSemi, kMode] r).bind fun _ r => (modeR r).bind fun n r => (wantT cSemi r).bind fun _ r => .ok (s, n) r
def restP (m : Nat) (h : List UInt8 × Int) (r : List Tk) : PR Po := (someP kOffice (declP kOffice) m r).bind fun o r => (someP kKind (declP kKind) m r).bind fun k r => (someP kRule (ruleP m) m r).bind fun w r => (wantP [kChange, cEq] r).bind fun _ r => (exprP m r).bind fun x r => .ok ⟨h.1, k, o, w, x, h.2⟩ r
theorem bodyP_split (m : Nat) (l : List Tk) : bodyP m l = (headP l).bind (restP m) := rfl
def polR (m : Nat) (l : List Tk) : PR Po := ((headR l).bind (restP m)).bind fun p r => (wantT cSemi r).bind fun _ r => .ok p r
def wholeR (m : Nat) (l : List Tk) : PR Po := (polR m l).bind fun p r => if r = [] then .ok p r else .bad r
theorem isT_uniq {s t : List UInt8} {l : List Tk} (h : isT s l = true) (hst : decide (s = t) = false) : isT t l = false := by
 cases l with
 | nil => rfl
 | cons u r =>
  rw [isT_cons] at h ⊢
  simp only [Bool.and_eq_true, decide_eq_true_eq] at h
  rw [h.2, hst, Bool.and_false]
theorem want_ok {s : List UInt8} {l r : List Tk} {x : Unit} (h : wantT s l = .ok x r) : isT s l = true ∧ r = l.tail := by
 unfold wantT at h
 split at h
 ·rename_i hi
  injection h with _ h
  exact ⟨hi, h.symm⟩
 ·cases h
theorem modeR_go {l r s : List Tk} {n : Int} {x : Unit} (h : modeR l = .ok n r) (h2 : wantT cSemi r = .ok x s) : modeGo modeW 0 l = .ok n r := by
 obtain ⟨hs, -⟩ := want_ok h2
 have b1 := isT_uniq hs (t := kOld) (by decide)
 have b2 := isT_uniq hs (t := kNew) (by decide)
 have b3 := isT_uniq hs (t := kBoth) (by decide)
 have b4 := isT_uniq hs (t := kEither) (by decide)
 unfold modeR at h
 by_cases h1 : isT kOld l = true
 ·rw [if_pos h1] at h
  injection h with e1 e2
  subst e1; subst e2
  simp [modeW, modeGo, h1, b2, b3, b4]
 ·rw [if_neg h1] at h
  have h1 : isT kOld l = false := by simpa using h1
  by_cases h3 : isT kNew l = true
  ·rw [if_pos h3] at h
   injection h with e1 e2
   subst e1; subst e2
   simp [modeW, modeGo, h1, h3, b3, b4]
  ·rw [if_neg h3] at h
   have h3 : isT kNew l = false := by simpa using h3
   by_cases h4 : isT kBoth l = true
   ·rw [if_pos h4] at h
    injection h with e1 e2
    subst e1; subst e2
    simp [modeW, modeGo, h1, h3, h4, b4]
   ·rw [if_neg h4] at h
    have h4 : isT kBoth l = false := by simpa using h4
    obtain ⟨_, a, e, h⟩ := bind_inv h
    injection h with e1 e2
    subst e1; subst e2
    obtain ⟨q, rfl⟩ := want_ok e
    simp [modeW, modeGo, h1, h3, h4, q]
theorem headR_P {l r : List Tk} {x : List UInt8 × Int} (h : headR l = .ok x r) : headP l = .ok x r := by
 unfold headR at h
 obtain ⟨_, a1, d1, h⟩ := bind_inv h
 obtain ⟨s, a2, d2, h⟩ := bind_inv h
 obtain ⟨_, a3, d3, h⟩ := bind_inv h
 obtain ⟨n, a4, d4, h⟩ := bind_inv h
 obtain ⟨_, a5, d5, h⟩ := bind_inv h
 unfold headP
 rw [d1, bind_ok, d2, bind_ok, d3, bind_ok, modeR_go d4 d5, bind_ok, d5, bind_ok]
 exact h
theorem wholeR_P {m : Nat} {l r : List Tk} {p : Po} (h : wholeR m l = .ok p r) : wholeP m l = .ok p r := by
 unfold wholeR at h
 obtain ⟨q, a, e, h⟩ := bind_inv h
 unfold polR at e
 obtain ⟨q2, a2, e2, e⟩ := bind_inv e
 obtain ⟨x, a3, e3, e2⟩ := bind_inv e2
 unfold wholeP polP
 rw [bodyP_split, headR_P e3, bind_ok, e2, bind_ok, e, bind_ok]
 exact h
theorem head_r {p : Po} (h1 : 1 ≤ p.mode) (h2 : p.mode ≤ 4) (h3 : nameW p.name = true) (r : List Tk) : headR ([wT kPolicy, nT p.name, wT cSemi, wT kMode, nT (modeS p.mode), wT cSemi] ++ r) = .ok (p.name, p.mode) r := by
 show headR (wT kPolicy :: nT p.name :: wT cSemi :: wT kMode :: nT (modeS p.mode) :: wT cSemi :: r) = _
 have hm : ∀ r, modeR (nT (modeS p.mode) :: r) = .ok p.mode r := by
  intro r
  have i : ∀ s t : List UInt8, isT s (nT t :: r) = decide (t = s) := fun s t => rfl
  have : p.mode = 1 ∨ p.mode = 2 ∨ p.mode = 3 ∨ p.mode = 4 := by omega
  rcases this with e | e | e | e
  ·rw [e]; unfold modeR; rw [i, if_pos (by decide)]; rfl
  ·rw [e]; unfold modeR; rw [i, if_neg (by decide), i, if_pos (by decide)]; rfl
  ·rw [e]; unfold modeR; rw [i, if_neg (by decide), i, if_neg (by decide), i, if_pos (by decide)]; rfl
  ·rw [e]; unfold modeR; rw [i, if_neg (by decide), i, if_neg (by decide), i, if_neg (by decide)]; unfold wantT; rw [i, if_pos (by decide)]; rfl
 unfold headR
 rw [want_wT, bind_ok, name_nT h3, bind_ok]
 unfold wantP wantP wantP
 rw [want_wT, bind_ok, want_wT, bind_ok, bind_ok, hm, bind_ok, want_wT, bind_ok]
theorem wholeR_w {p : Po} (h : wrP p = true) {m : Nat} (hm : (tokP p).length ≤ m) : wholeR m (tokP p) = .ok p [] := by
 have hw := read_whole h hm
 unfold wrP at h
 simp only [Bool.and_eq_true, decide_eq_true_eq] at h
 obtain ⟨⟨h1, h2⟩, h3, -⟩ := h
 unfold wholeP polP at hw
 unfold wholeR polR
 unfold tokP at hw ⊢
 rw [bodyP_split, head_w h1 h2 h3] at hw
 rw [head_r h1 h2 h3]
 exact hw
theorem refPrint_iff {p : Po} {m : Nat} (hm : (tokP p).length ≤ m) (hv : Valid (tokP p)) : (∃ r, wholeR m (tokP p) = .ok p r) ↔ wrP p = true :=
 ⟨fun ⟨r, h⟩ => whole_read hv (wholeR_P h), fun h => ⟨[], wholeR_w h hm⟩⟩
end Go.Syn
end

section
namespace Go.Proofs.YtmdakolcndpjeaaGreatDoor
open Go.AE Go.Lex Go.Pol Go.Syn
theorem rs84 : Tryz.f84.results.toList = [.tmp 4] := by kernel_rfl
theorem rs85 : Tryz.f85.results.toList = [.tmp 6] := by kernel_rfl
theorem rs86 : Tryz.f86.results.toList = [.tmp 2] := by kernel_rfl
theorem rs87 : Tryz.f87.results.toList = [.tmp 4] := by kernel_rfl
theorem rs88 : Tryz.f88.results.toList = [.tmp 4] := by kernel_rfl
def sT (s : List UInt8) : Tk := ⟨3, s, 0, 0⟩
def Gr (n0 : Nat) (h h' : Heap) : Prop := ∀ b, Mut b n0 h h'
theorem Gr.refl (n0 : Nat) (h : Heap) : Gr n0 h h := fun b => .refl b n0 h
theorem Gr.trans {n0 : Nat} {x y z : Heap} (a : Gr n0 x y) (c : Gr n0 y z) : Gr n0 x z := fun b => (a b).trans (c b)
theorem Gr.push {n0 : Nat} {h h' : Heap} (a : Gr n0 h h') (cs : List AV) : Gr n0 h (h'.push cs) := fun b => (a b).push cs
theorem Gr.app {n0 : Nat} {h h' : Heap} (a : Gr n0 h h') {k : Tok} (hk : CanApp n0 h' k) : Gr n0 h (h'.app k) := fun b => (a b).app2 hk
theorem Gr.box {n0 : Nat} {h h' : Heap} (a : Gr n0 h h') {c : Nat} {cs : List AV} (hb : h.boxes[c]? = some cs) : h'.boxes[c]? = some cs := (a (c + 1)).box c cs (by omega) hb
theorem Gr.put {n0 : Nat} {h h' : Heap} (a : Gr n0 h h') {c : Nat} (hc : h.boxes.length ≤ c) (cs : List AV) : Gr n0 h (h'.put c cs) := fun b => (a b).put_new hc cs
theorem Gr.of_ext {n0 : Nat} {h h' : Heap} (x : Ext h h') (hn : n0 ≤ h.tn) : Gr n0 h h' := fun b => .of_ext x hn
theorem Gr.ext {h0 h h' : Heap} (x : Ext h0 h) (a : Gr h0.tn h h') : Ext h0 h' := x.mut (a h0.boxes.length) (Nat.le_refl _)
structure Ls (n0 : Nat) (h : Heap) (tok : Tok) (sz : Nat) (l : List Tk) : Prop where
 can : CanApp n0 h tok
 size : sz = 4 ∨ (l = [] ∧ tok = .nil)
 ok : okHeap h = true
 tn : n0 ≤ h.tn
theorem Ls.can0 {n0 : Nat} {h : Heap} {tok : Tok} {sz : Nat} {l : List Tk} (s : Ls n0 h tok sz l) : CanApp 0 h tok := s.can.mono (Nat.zero_le _)
theorem Ls.next {n0 : Nat} {h : Heap} {tok : Tok} {sz : Nat} {l : List Tk} (s : Ls n0 h tok sz l) (t : Tk) : Ls n0 (h.app tok) (.free h.tn) 4 (l ++ [t]) := ⟨s.can.next s.ok s.tn, .inl rfl, (Mut.app (b := 0) s.can).ok s.ok, by rw [app_tn]; have := s.tn; omega⟩
theorem Ls.push {n0 : Nat} {h : Heap} {tok : Tok} {sz : Nat} {l : List Tk} (s : Ls n0 h tok sz l) (cs : List AV) : Ls n0 (h.push cs) tok sz l := ⟨s.can, s.size, s.ok, s.tn⟩
theorem Ls.put {n0 : Nat} {h : Heap} {tok : Tok} {sz : Nat} {l : List Tk} (s : Ls n0 h tok sz l) (c : Nat) (cs : List AV) : Ls n0 (h.put c cs) tok sz l := ⟨s.can, s.size, s.ok, s.tn⟩
theorem bt3 (n : Int) : buildEv Tryz.prog 43 [(0, .v (.int .i64 2)), (2, .v (.int .i64 n))] = some (.agg (dT n).row) := by kernel_rfl
theorem bt1n (s : List UInt8) : buildEv Tryz.prog 43 [(0, .v (.int .i64 1)), (1, .v (.string (bs s)))] = some (.agg (nT s).row) := by kernel_rfl
theorem bt1s (s : List UInt8) : buildEv Tryz.prog 43 [(0, .v (.int .i64 3)), (1, .v (.string (bs s)))] = some (.agg (sT s).row) := by kernel_rfl
section
variable {n0 : Nat} {h : Heap} {tok : Tok} {sz : Nat} {l : List Tk}
theorem put_eq (s : Ls n0 h tok sz l) (hl : l.length ≤ 1000000000) (x : List UInt8) : W.call 88 [.list tok sz (toks l), .v (.string (bs x))] h = some (.ret (.list (.free h.tn) 4 (toks (l ++ [nT x]))), h.app tok) := by
 have ap := app_tk18 (t := nT x) s.can0 s.size hl
 clear s
 refine call_of_run rfl Tryz.func88 rfl ?_
 repeat' (first | simp (config := { maxSteps := 4000000 }) (disch := first | exact dZ | fail) only [goS, plainEv, resultsEv, resultListEv, reduceIte, Nat.reduceEqDiff, goT, beq_self_eq_true, goH, goU, rs88, bt1n, bt39, *] | (refine dX ?_ ?_ <;> (intro _; try (exfalso; omega))) | (refine dY ?_ ?_ <;> intro _) | fail)
theorem mark_eq (s : Ls n0 h tok sz l) (hl : l.length ≤ 1000000000) (x : List UInt8) : W.call 84 [.list tok sz (toks l), .v (.string (bs x))] h = some (.ret (.list (.free h.tn) 4 (toks (l ++ [sT x]))), h.app tok) := by
 have ap := app_tk18 (t := sT x) s.can0 s.size hl
 clear s
 refine call_of_run rfl Tryz.func84 rfl ?_
 repeat' (first | simp (config := { maxSteps := 4000000 }) (disch := first | exact dZ | fail) only [goS, plainEv, resultsEv, resultListEv, reduceIte, Nat.reduceEqDiff, goT, beq_self_eq_true, goH, goU, rs84, bt1s, bt39, *] | (refine dX ?_ ?_ <;> (intro _; try (exfalso; omega))) | (refine dY ?_ ?_ <;> intro _) | fail)
theorem digits_eq (s : Ls n0 h tok sz l) (hl : l.length ≤ 1000000000) (n : Int) : W.call 87 [.list tok sz (toks l), .v (.int .i64 n)] h = some (.ret (.list (.free h.tn) 4 (toks (l ++ [dT n]))), h.app tok) := by
 have ap := app_tk18 (t := dT n) s.can0 s.size hl
 clear s
 refine call_of_run rfl Tryz.func87 rfl ?_
 repeat' (first | simp (config := { maxSteps := 4000000 }) (disch := first | exact dZ | fail) only [goS, plainEv, resultsEv, resultListEv, reduceIte, Nat.reduceEqDiff, goT, beq_self_eq_true, goH, goU, rs87, bt3, bt39, *] | (refine dX ?_ ?_ <;> (intro _; try (exfalso; omega))) | (refine dY ?_ ?_ <;> intro _) | fail)
theorem puts_eq (s : Ls n0 h tok sz l) (hl : l.length ≤ 999999999) (x y : List UInt8) : W.call 85 [.list tok sz (toks l), .v (.string (bs x)), .v (.string (bs y))] h = some (.ret (.list (.free (h.app tok).tn) 4 (toks ((l ++ [nT x]) ++ [nT y]))), (h.app tok).app (.free h.tn)) := by
 have c1 := put_eq s (by omega) x
 have c2 := put_eq (s.next (nT x)) (by simp; omega) y
 clear s
 refine call_of_run rfl Tryz.func85 rfl ?_
 repeat' (first | simp (config := { maxSteps := 4000000 }) (disch := first | exact dZ | fail) only [goS, plainEv, resultsEv, resultListEv, reduceIte, Nat.reduceEqDiff, goT, beq_self_eq_true, goH, goU, rs85, *] | (refine dX ?_ ?_ <;> (intro _; try (exfalso; omega))) | (refine dY ?_ ?_ <;> intro _) | fail)
theorem Ls.next2 (s : Ls n0 h tok sz l) (x y : Tk) : Ls n0 ((h.app tok).app (.free h.tn)) (.free (h.app tok).tn) 4 ((l ++ [x]) ++ [y]) := (s.next x).next y
theorem Gr.app_ls {h0 : Heap} (a : Gr n0 h0 h) (s : Ls n0 h tok sz l) : Gr n0 h0 (h.app tok) := a.app s.can
end
theorem modes_ev2 (n : Int) (h : Heap) : W.call 86 [.v (.int .i64 n)] h = some (.ret (.v (.string (bs (modeS n)))), h) := by
 have b0 : (bs [] : ByteArray) = bs [] := rfl
 refine call_of_run rfl Tryz.func86 rfl ?_
 by_cases h1 : n = 1
 ·subst h1
  repeat' (first | simp (config := { maxSteps := 4000000 }) (disch := first | exact dZ | fail) only [goS, plainEv, resultsEv, resultListEv, reduceIte, Nat.reduceEqDiff, goT, beq_self_eq_true, goH, goU, rs86, *] | (refine dX ?_ ?_ <;> (intro _; try (exfalso; omega))) | (refine dY ?_ ?_ <;> intro _) | fail)
  rfl
 by_cases h2 : n = 2
 ·subst h2
  repeat' (first | simp (config := { maxSteps := 4000000 }) (disch := first | exact dZ | fail) only [goS, plainEv, resultsEv, resultListEv, reduceIte, Nat.reduceEqDiff, goT, beq_self_eq_true, goH, goU, rs86, *] | (refine dX ?_ ?_ <;> (intro _; try (exfalso; omega))) | (refine dY ?_ ?_ <;> intro _) | fail)
  rfl
 by_cases h3 : n = 3
 ·subst h3
  repeat' (first | simp (config := { maxSteps := 4000000 }) (disch := first | exact dZ | fail) only [goS, plainEv, resultsEv, resultListEv, reduceIte, Nat.reduceEqDiff, goT, beq_self_eq_true, goH, goU, rs86, *] | (refine dX ?_ ?_ <;> (intro _; try (exfalso; omega))) | (refine dY ?_ ?_ <;> intro _) | fail)
  rfl
 by_cases h4 : n = 4
 ·subst h4
  repeat' (first | simp (config := { maxSteps := 4000000 }) (disch := first | exact dZ | fail) only [goS, plainEv, resultsEv, resultListEv, reduceIte, Nat.reduceEqDiff, goT, beq_self_eq_true, goH, goU, rs86, *] | (refine dX ?_ ?_ <;> (intro _; try (exfalso; omega))) | (refine dY ?_ ?_ <;> intro _) | fail)
  rfl
 have e : modeS n = [] := by unfold modeS; rw [if_neg h1, if_neg h2, if_neg h3, if_neg h4]
 rw [e]
 repeat' (first | simp (config := { maxSteps := 4000000 }) (disch := first | exact dZ | fail) only [goS, plainEv, resultsEv, resultListEv, reduceIte, Nat.reduceEqDiff, goT, beq_self_eq_true, goH, goU, rs86, *] | (refine dX ?_ ?_ <;> (intro _; try (exfalso; omega))) | (refine dY ?_ ?_ <;> intro _) | fail)
end Go.Proofs.YtmdakolcndpjeaaGreatDoor
end

section
namespace Go.Proofs.YtmdakolcndpjeaaGreatDoor
open Go.AE Go.Lex Go.Pol Go.Syn
theorem rs89 : Tryz.f89.results.toList = [.tmp 4] := by kernel_rfl
def PutPost (n0 : Nat) (h : Heap) (l : List Tk) (r : Res) (h' : Heap) : Prop := ∃ tok sz, r = .ret (.list tok sz (toks l)) ∧ Gr n0 h h' ∧ Ls n0 h' tok sz l
def PutsE (x : Ex) : Prop := ∀ (row : List AV), Row x row → ∀ (n0 : Nat) (h : Heap) (tok : Tok) (sz : Nat) (l : List Tk), Ls n0 h tok sz l → (l ++ tokE x).length ≤ 999999990 →
 ∃ r h', W.call 89 [.list tok sz (toks l), .agg row] h = some (r, h') ∧ PutPost n0 h (l ++ tokE x) r h'
theorem sU (b : Bool) (y : Ex) : tokU b [y] = (if b = true then [] else [nT kElse]) ++ (sT cOpen :: (tokE y ++ [sT cClose])) := by
 rw [tokU, tokU]; rfl
theorem sC (b : Bool) (y : Ex) : tokC b [y] = (if b = true then [] else [sT cComma]) ++ tokE y := by
 rw [tokC, tokC, List.append_nil]; rfl
theorem take_one {l : List Ex} {i : Nat} {y : Ex} (hy : l[i]? = some y) : l.take (i + 1) = l.take i ++ [y] := by
 obtain ⟨hj, rfl⟩ := List.getElem?_eq_some_iff.1 hy
 exact List.take_succ_eq_append_getElem hj
theorem take_emp {l : List Ex} {i : Nat} (hi : i < l.length) : (l.take i).isEmpty = decide (i = 0) := by
 cases i with
 | zero => rfl
 | succ i =>
  cases l with
  | nil => cases hi
  | cons x r => rfl
theorem tokU_le (l : List Ex) (i : Nat) : (tokU true (l.take i)).length ≤ (tokU true l).length := by
 have a2 : tokU true l = tokU true (l.take i) ++ tokU (true && (l.take i).isEmpty) (l.drop i) := by rw [← tokU_app, List.take_append_drop]
 rw [a2, List.length_append]; omega
theorem tokC_le (l : List Ex) (i : Nat) : (tokC true (l.take i)).length ≤ (tokC true l).length := by
 have a2 : tokC true l = tokC true (l.take i) ++ tokC (true && (l.take i).isEmpty) (l.drop i) := by rw [← tokC_app, List.take_append_drop]
 rw [a2, List.length_append]; omega
theorem tokU_step {l : List Ex} {i : Nat} {y : Ex} (hy : l[i]? = some y) : tokU true (l.take (i + 1)) = tokU true (l.take i) ++ ((if i = 0 then [] else [nT kElse]) ++ (sT cOpen :: (tokE y ++ [sT cClose]))) := by
 have hi := (List.getElem?_eq_some_iff.1 hy).1
 rw [take_one hy, tokU_app, take_emp hi, Bool.true_and, sU]
 simp only [decide_eq_true_eq]
theorem tokC_step {l : List Ex} {i : Nat} {y : Ex} (hy : l[i]? = some y) : tokC true (l.take (i + 1)) = tokC true (l.take i) ++ ((if i = 0 then [] else [sT cComma]) ++ tokE y) := by
 have hi := (List.getElem?_eq_some_iff.1 hy).1
 rw [take_one hy, tokC_app, take_emp hi, Bool.true_and, sC]
 simp only [decide_eq_true_eq]
theorem sameI (n : Int) : sameAV (.v (.int .i64 n)) (.v (.int .i64 n)) = true := by simp [sameAV, sameV]
theorem sameS (s : List UInt8) : sameAV (.v (.string (bs s))) (.v (.string (bs s))) = true := by simp [sameAV, sameV]
theorem puts_expr : ∀ x, PutsE x := by
 intro x
 induction x using Ex.ind with
 | h k nn no s l ih =>
  intro row hrow n0 h tok sz l0 S hl
  obtain ⟨tk, szr, rows, rfl, hrows, hsz, hbd⟩ := Row.five hrow
  simp only [Ex.kind, Ex.n, Ex.no, Ex.name, Ex.l] at hrows hsz hbd ⊢
  have a26 := ag26; have s26 := sz26; have a24 := ag24; have s24 := sz24; have u24 := Tryz.underlying24; have a3 := ag3; have a9 := ag9
  have S0 := S.push (row5 k nn no s tk szr rows)
  have G0 : Gr n0 h (h.push (row5 k nn no s tk szr rows)) := (Gr.refl n0 h).push _
  have l0b : l0.length ≤ 999999000 ∨ 999999000 < l0.length := by omega
  have pb := push_last h (row5 k nn no s tk szr rows)
  rw [tokE] at hl ⊢
  by_cases h1 : k = 1
  ·rw [if_pos h1] at hl ⊢
   simp only [List.length_append, List.length_cons, List.length_nil] at hl
   have c1 := puts_eq S0 (by omega) [115, 111, 109, 101] s
   have kG := Keep.mk ((G0.app_ls S0).app_ls (S0.next (nT kSome)))
   have kS := Keep.mk (S0.next2 (nT kSome) (nT s))
   have d1 : decide (k = 1) = true := decide_eq_true h1
   clear S S0 G0 hrow hrows ih h1
   rw [show l0 ++ [wT kSome, nT s] = (l0 ++ [nT kSome]) ++ [nT s] by rw [List.append_assoc]; rfl]
   refine call_post rfl Tryz.func89 rfl ?_
   repeat' (first | simp (config := { maxSteps := 4000000 }) (disch := first | exact dZ | fail) only [goS, plainEv, resultsEv, resultListEv, reduceIte, Nat.reduceEqDiff, goT, beq_self_eq_true, goH, goU, rs89, r5c, fa26_0, fa26_1, fa26_3, fa26_4, q5_0, q5_1, q5_3, q5_4, *] | (refine dX ?_ ?_ <;> (intro _; try (exfalso; omega))) | (refine dY ?_ ?_ <;> intro _) | fail)
   exact ⟨_, _, rfl, _, _, rfl, kG.out, kS.out⟩
  rw [if_neg h1] at hl ⊢
  have d1 : decide (k = 1) = false := decide_eq_false h1
  by_cases h2 : k = 2
  ·rw [if_pos h2] at hl ⊢
   simp only [List.length_append, List.length_cons, List.length_nil] at hl
   have c1 := put_eq S0 (by omega) [119, 101, 105, 103, 104, 116]
   have S1 := S0.next (nT kWeight)
   have G1 := G0.app_ls S0
   have c2 := digits_eq S1 (by simp only [List.length_append, List.length_cons, List.length_nil]; omega) nn
   have S2 := S1.next (dT nn)
   have G2 := G1.app_ls S1
   have c3 := puts_eq S2 (by simp only [List.length_append, List.length_cons, List.length_nil]; omega) [111, 102] s
   have kS := Keep.mk (S2.next2 (nT kOf) (nT s))
   have kG := Keep.mk ((G2.app_ls S2).app_ls (S2.next (nT kOf)))
   have d2 : decide (k = 2) = true := decide_eq_true h2
   have pb1 : ((h.push (row5 k nn no s tk szr rows)).app tok).boxes[h.boxes.length]? = some (row5 k nn no s tk szr rows) := by rw [app_boxes]; exact pb
   have pb2 : (((h.push (row5 k nn no s tk szr rows)).app tok).app (.free (h.push (row5 k nn no s tk szr rows)).tn)).boxes[h.boxes.length]? = some (row5 k nn no s tk szr rows) := by rw [app_boxes]; exact pb1
   clear S S0 S1 S2 G0 G1 G2 hrow hrows ih h1 h2
   simp only [kWeight, kOf] at c1 c2 c3 kS
   rw [show l0 ++ [wT kWeight, dT nn, wT kOf, nT s] = (((l0 ++ [nT [119, 101, 105, 103, 104, 116]]) ++ [dT nn]) ++ [nT [111, 102]]) ++ [nT s] by simp only [List.append_assoc]; rfl]
   refine call_post rfl Tryz.func89 rfl ?_
   repeat' (first | simp (config := { maxSteps := 4000000 }) (disch := first | exact dZ | fail) only [goS, plainEv, resultsEv, resultListEv, reduceIte, Nat.reduceEqDiff, goT, beq_self_eq_true, goH, goU, rs89, r5c, fa26_0, fa26_1, fa26_3, fa26_4, q5_0, q5_1, q5_3, q5_4, *] | (refine dX ?_ ?_ <;> (intro _; try (exfalso; omega))) | (refine dY ?_ ?_ <;> intro _) | fail)
   refine run_draw_but [(1, 3), (1, 6), (4, 6)] (by kernel_rfl) ?_ ?_
   ·intro pr hp
    simp only [List.mem_cons, List.not_mem_nil, or_false] at hp
    rcases hp with rfl | rfl | rfl
    ·refine stable_behind (x := .ptr (.box h.boxes.length) (0 + 1)) (v := .v (.int .i64 nn)) (by kernel_rfl) rfl rfl rfl (by kernel_rfl) (sameI _) ?_ ?_
     ·simp only [List.take_succ_cons, List.take_zero]
      repeat' (first | simp (config := { maxSteps := 4000000 }) (disch := first | exact dZ | fail) only [goS, plainEv, resultsEv, resultListEv, reduceIte, Nat.reduceEqDiff, goT, beq_self_eq_true, goH, goU, fa26_1, q5_1, *] | (refine dX ?_ ?_ <;> (intro _; try (exfalso; omega))) | (refine dY ?_ ?_ <;> intro _) | fail)
      exact ⟨by trivial, by trivial, by trivial⟩
     ·simp only [List.take_succ_cons, List.take_zero]
      repeat' (first | simp (config := { maxSteps := 4000000 }) (disch := first | exact dZ | fail) only [goS, plainEv, resultsEv, resultListEv, reduceIte, Nat.reduceEqDiff, goT, beq_self_eq_true, goH, goU, fa26_1, q5_1, *] | (refine dX ?_ ?_ <;> (intro _; try (exfalso; omega))) | (refine dY ?_ ?_ <;> intro _) | fail)
      exact ⟨by trivial, by trivial⟩
    ·refine stable_behind (x := .ptr (.box h.boxes.length) (0 + 3)) (v := .v (.string (bs s))) (by kernel_rfl) rfl rfl rfl (by kernel_rfl) (sameS _) ?_ ?_
     ·simp only [List.take_succ_cons, List.take_zero]
      repeat' (first | simp (config := { maxSteps := 4000000 }) (disch := first | exact dZ | fail) only [goS, plainEv, resultsEv, resultListEv, reduceIte, Nat.reduceEqDiff, goT, beq_self_eq_true, goH, goU, fa26_1, fa26_3, q5_1, q5_3, *] | (refine dX ?_ ?_ <;> (intro _; try (exfalso; omega))) | (refine dY ?_ ?_ <;> intro _) | fail)
      exact ⟨by trivial, by trivial, by trivial⟩
     ·simp only [List.take_succ_cons, List.take_zero]
      repeat' (first | simp (config := { maxSteps := 4000000 }) (disch := first | exact dZ | fail) only [goS, plainEv, resultsEv, resultListEv, reduceIte, Nat.reduceEqDiff, goT, beq_self_eq_true, goH, goU, fa26_1, fa26_3, q5_1, q5_3, *] | (refine dX ?_ ?_ <;> (intro _; try (exfalso; omega))) | (refine dY ?_ ?_ <;> intro _) | fail)
      exact ⟨by trivial, by trivial⟩
    ·refine stable_behind (x := .ptr (.box h.boxes.length) (0 + 3)) (v := .v (.string (bs s))) (by kernel_rfl) rfl rfl rfl (by kernel_rfl) (sameS _) ?_ ?_
     ·simp only [List.take_succ_cons, List.take_zero]
      repeat' (first | simp (config := { maxSteps := 4000000 }) (disch := first | exact dZ | fail) only [goS, plainEv, resultsEv, resultListEv, reduceIte, Nat.reduceEqDiff, goT, beq_self_eq_true, goH, goU, fa26_1, fa26_3, q5_1, q5_3, *] | (refine dX ?_ ?_ <;> (intro _; try (exfalso; omega))) | (refine dY ?_ ?_ <;> intro _) | fail)
      exact ⟨by trivial, by trivial, by trivial⟩
     ·simp only [List.take_succ_cons, List.take_zero]
      repeat' (first | simp (config := { maxSteps := 4000000 }) (disch := first | exact dZ | fail) only [goS, plainEv, resultsEv, resultListEv, reduceIte, Nat.reduceEqDiff, goT, beq_self_eq_true, goH, goU, fa26_1, fa26_3, q5_1, q5_3, *] | (refine dX ?_ ?_ <;> (intro _; try (exfalso; omega))) | (refine dY ?_ ?_ <;> intro _) | fail)
      exact ⟨by trivial, by trivial⟩
   repeat' (first | simp (config := { maxSteps := 4000000 }) (disch := first | exact dZ | fail) only [goS, plainEv, resultsEv, resultListEv, reduceIte, Nat.reduceEqDiff, goT, beq_self_eq_true, goH, goU, rs89, r5c, fa26_0, fa26_1, fa26_3, fa26_4, q5_0, q5_1, q5_3, q5_4, *] | (refine dX ?_ ?_ <;> (intro _; try (exfalso; omega))) | (refine dY ?_ ?_ <;> intro _) | fail)
   exact ⟨_, _, rfl, _, _, rfl, kG.out, kS.out⟩
  rw [if_neg h2] at hl ⊢
  have d2 : decide (k = 2) = false := decide_eq_false h2
  have hrl := hrows.1
  have kih := Keep.mk ih
  have kr := Keep.mk hrows
  have kz := Keep.mk hsz
  by_cases h4 : k = 4
  ·rw [if_pos h4] at hl ⊢
   have d4 : decide (k = 4) = true := decide_eq_true h4
   have hll := tokU_len l true
   simp only [List.length_append, List.length_cons] at hl
   have c1 := put_eq S0 (by omega) [117, 112, 116, 111]
   have S1 := S0.next (nT kUpto)
   have G1 := G0.app_ls S0
   have c2 := digits_eq S1 (by simp only [List.length_append, List.length_cons, List.length_nil]; omega) nn
   have S2 := S1.next (dT nn)
   have G2 := G1.app_ls S1
   have pb1 : ((h.push (row5 k nn no s tk szr rows)).app tok).boxes[h.boxes.length]? = some (row5 k nn no s tk szr rows) := by rw [app_boxes]; exact pb
   have pb2 : (((h.push (row5 k nn no s tk szr rows)).app tok).app (.free (h.push (row5 k nn no s tk szr rows)).tn)).boxes[h.boxes.length]? = some (row5 k nn no s tk szr rows) := by rw [app_boxes]; exact pb1
   have e0 : (l0 ++ [nT kUpto]) ++ [dT nn] = l0 ++ (wT kUpto :: dT nn :: tokU true []) := by rw [tokU, List.append_assoc]; rfl
   have kS := Keep.mk S2
   have kG := Keep.mk G2
   have khl := Keep.mk hl
   clear S S0 S1 S2 G0 G1 G2 hrow hrows hsz ih h1 h2 h4 hl
   simp only [kUpto] at c1 c2 kS
   refine call_post rfl Tryz.func89 rfl ?_
   repeat' (first | simp (config := { maxSteps := 4000000 }) (disch := first | exact dZ | fail) only [goS, plainEv, resultsEv, resultListEv, reduceIte, Nat.reduceEqDiff, goT, beq_self_eq_true, goH, goU, rs89, r5c, fa26_0, fa26_1, fa26_3, fa26_4, q5_0, q5_1, q5_3, q5_4, *] | (refine dX ?_ ?_ <;> (intro _; try (exfalso; omega))) | (refine dY ?_ ?_ <;> intro _) | fail)
   refine run_draw_but [(1, 3)] (by kernel_rfl) ?_ ?_
   ·intro pr hp
    simp only [List.mem_singleton] at hp
    subst hp
    refine stable_behind (x := .ptr (.box h.boxes.length) (0 + 1)) (v := .v (.int .i64 nn)) (by kernel_rfl) rfl rfl rfl (by kernel_rfl) (sameI _) ?_ ?_
    ·simp only [List.take_succ_cons, List.take_zero]
     repeat' (first | simp (config := { maxSteps := 4000000 }) (disch := first | exact dZ | fail) only [goS, plainEv, resultsEv, resultListEv, reduceIte, Nat.reduceEqDiff, goT, beq_self_eq_true, goH, goU, fa26_1, q5_1, *] | (refine dX ?_ ?_ <;> (intro _; try (exfalso; omega))) | (refine dY ?_ ?_ <;> intro _) | fail)
     exact ⟨by trivial, by trivial, by trivial⟩
    ·simp only [List.take_succ_cons, List.take_zero]
     repeat' (first | simp (config := { maxSteps := 4000000 }) (disch := first | exact dZ | fail) only [goS, plainEv, resultsEv, resultListEv, reduceIte, Nat.reduceEqDiff, goT, beq_self_eq_true, goH, goU, fa26_1, q5_1, *] | (refine dX ?_ ?_ <;> (intro _; try (exfalso; omega))) | (refine dY ?_ ?_ <;> intro _) | fail)
     exact ⟨by trivial, by trivial⟩
   repeat' (first | simp (config := { maxSteps := 4000000 }) (disch := first | exact dZ | fail) only [goS, plainEv, resultsEv, resultListEv, reduceIte, Nat.reduceEqDiff, goT, beq_self_eq_true, goH, goU, rs89, r5c, fa26_0, fa26_1, fa26_3, fa26_4, q5_0, q5_1, q5_3, q5_4, *] | (refine dX ?_ ?_ <;> (intro _; try (exfalso; omega))) | (refine dY ?_ ?_ <;> intro _) | fail)
   refine run_loop (fun m e h' => ∃ (i : Nat) (tok' : Tok) (sz' : Nat), i ≤ l.length ∧ m = l.length - i ∧ e.get 0 = .list tok' sz' (toks (l0 ++ (wT kUpto :: dT nn :: tokU true (l.take i)))) ∧ e.get 3 = .ptr (.box h.boxes.length) 0 ∧ e.get 5 = .v (.int .i64 i) ∧ e.defers = [] ∧ Gr n0 h h' ∧ Ls n0 h' tok' sz' (l0 ++ (wT kUpto :: dT nn :: tokU true (l.take i))) ∧ h'.boxes[h.boxes.length]? = some (row5 k nn no s tk szr rows)) ?_ l.length _ _ ?_
   ·rintro m e h' ⟨i, tok', sz', hi, rfl, g0, g3, g5, hd, hG, hS, hb⟩
    have kG' := Keep.mk hG
    by_cases hlt : i < l.length
    ·obtain ⟨y, r, hy, hr, hyr⟩ := kr.out.get hlt
     have h5 := kz.out i hlt
     subst h5
     have hlt3 : (i : Int) < (rows.length : Int) := by rw [hrl]; omega
     have hrl5 := hyr.len
     have ht5 := take5 hrl5
     have hle5 : 5 ≤ (r.drop 0).length := by rw [List.drop_zero]; omega
     have hst := tokU_step hy
     have hle := tokU_le l (i + 1)
     have kl := khl.out
     rw [hst] at hle
     have cur : (l0 ++ (wT kUpto :: dT nn :: tokU true (l.take i))).length = l0.length + 2 + (tokU true (l.take i)).length := by simp only [List.length_append, List.length_cons]; omega
     by_cases h0 : i = 0
     ·rw [if_pos h0, List.nil_append] at hst hle
      simp only [List.length_append, List.length_cons, List.length_nil] at hle
      generalize hcur : l0 ++ (wT kUpto :: dT nn :: tokU true (l.take i)) = cl at *
      have c1 := mark_eq hS (by omega) [40]
      have S1 := hS.next (sT cOpen)
      have G1 := hG.app_ls hS
      have lenc : (cl ++ [sT cOpen]).length = cl.length + 1 := by simp
      obtain ⟨r2, h2, c2, tok2, sz2, rfl, G2, S2⟩ := kih.out y (List.mem_of_getElem? hy) r hyr n0 _ _ _ _ S1 (by rw [List.length_append]; omega)
      have c3 := mark_eq S2 (by simp only [List.length_append, List.length_cons, List.length_nil]; omega) [41]
      have S3 := S2.next (sT cClose)
      have G3 := (G1.trans G2).app_ls S2
      have b1 : (h'.app tok').boxes[h.boxes.length]? = some (row5 k nn no s tk 5 rows) := by rw [app_boxes]; exact hb
      have b3 : (h2.app tok2).boxes[h.boxes.length]? = some (row5 k nn no s tk 5 rows) := by rw [app_boxes]; exact G2.box b1
      have kG3 := Keep.mk G3
      have kS3 := Keep.mk S3
      have efin : ((cl ++ [sT cOpen]) ++ tokE y) ++ [sT cClose] = l0 ++ (wT kUpto :: dT nn :: tokU true (l.take (i + 1))) := by
       rw [hst, ← hcur]
       simp
      have kef := Keep.mk efin
      have h0' : ¬ (0 : Int) < (i : Int) := by omega
      simp only [cOpen, cClose] at c1 c2 c3
      have sl : sameAV (.list tk 5 rows) (.list tk 5 rows) = true := same_listE kr.out tk 5
      have sr : sameAV (.agg r) (.agg r) = true := by have := Row.same _ _ hyr; rw [sameAV]; exact this
      clear hG hS G1 S1 G2 S2 G3 S3 hst hle efin hcur hyr hy h0 cur
      repeat' (first | simp (config := { maxSteps := 4000000 }) (disch := first | exact dZ | fail) only [goS, plainEv, resultsEv, resultListEv, reduceIte, Nat.reduceEqDiff, goT, beq_self_eq_true, goH, goU, rs89, r5c, fa26_4, q5_4, index_list, load_row_agg, *] | (refine dX ?_ ?_ <;> (intro _; try (exfalso; omega))) | (refine dY ?_ ?_ <;> intro _) | fail)
      refine run_draw_but [(1, 3), (1, 6)] (by kernel_rfl) ?_ ?_
      ·intro pr hp
       simp only [List.mem_cons, List.not_mem_nil, or_false] at hp
       rcases hp with rfl | rfl
       ·refine stable_behind (x := .ptr (.box h.boxes.length) (0 + 4)) (v := .list tk 5 rows) (by kernel_rfl) rfl rfl rfl (by kernel_rfl) sl ?_ ?_
        ·simp only [List.take_succ_cons, List.take_zero]
         repeat' (first | simp (config := { maxSteps := 4000000 }) (disch := first | exact dZ | fail) only [goS, plainEv, resultsEv, resultListEv, reduceIte, Nat.reduceEqDiff, goT, beq_self_eq_true, goH, goU, fa26_4, q5_4, *] | (refine dX ?_ ?_ <;> (intro _; try (exfalso; omega))) | (refine dY ?_ ?_ <;> intro _) | fail)
         exact ⟨by trivial, by trivial, by trivial⟩
        ·simp only [List.take_succ_cons, List.take_zero]
         repeat' (first | simp (config := { maxSteps := 4000000 }) (disch := first | exact dZ | fail) only [goS, plainEv, resultsEv, resultListEv, reduceIte, Nat.reduceEqDiff, goT, beq_self_eq_true, goH, goU, fa26_4, q5_4, *] | (refine dX ?_ ?_ <;> (intro _; try (exfalso; omega))) | (refine dY ?_ ?_ <;> intro _) | fail)
         exact ⟨by trivial, by trivial⟩
       ·refine stable_behind (x := .elem 5 rows i 0) (v := .agg r) (by kernel_rfl) rfl rfl rfl (by kernel_rfl) sr ?_ ?_
        ·simp only [List.take_succ_cons, List.take_zero]
         repeat' (first | simp (config := { maxSteps := 4000000 }) (disch := first | exact dZ | fail) only [goS, plainEv, resultsEv, resultListEv, reduceIte, Nat.reduceEqDiff, goT, beq_self_eq_true, goH, goU, fa26_4, q5_4, index_list, load_row_agg, *] | (refine dX ?_ ?_ <;> (intro _; try (exfalso; omega))) | (refine dY ?_ ?_ <;> intro _) | fail)
         exact ⟨by trivial, by trivial, by trivial⟩
        ·simp only [List.take_succ_cons, List.take_zero]
         repeat' (first | simp (config := { maxSteps := 4000000 }) (disch := first | exact dZ | fail) only [goS, plainEv, resultsEv, resultListEv, reduceIte, Nat.reduceEqDiff, goT, beq_self_eq_true, goH, goU, fa26_4, q5_4, index_list, load_row_agg, *] | (refine dX ?_ ?_ <;> (intro _; try (exfalso; omega))) | (refine dY ?_ ?_ <;> intro _) | fail)
         exact ⟨by trivial, by trivial⟩
      repeat' (first | simp (config := { maxSteps := 4000000 }) (disch := first | exact dZ | fail) only [goS, plainEv, resultsEv, resultListEv, reduceIte, Nat.reduceEqDiff, goT, beq_self_eq_true, goH, goU, rs89, r5c, fa26_4, q5_4, index_list, load_row_agg, *] | (refine dX ?_ ?_ <;> (intro _; try (exfalso; omega))) | (refine dY ?_ ?_ <;> intro _) | fail)
      refine ⟨l.length - (i + 1), by omega, i + 1, .free h2.tn, 4, by omega, rfl, ?_, (by first | trivial | (simp; done) | (simp; omega)), (by first | trivial | (simp; done) | (simp; omega)), (by first | trivial | (simp; done) | (simp; omega)), kG3.out, ?_, by first | exact b3 | trivial⟩
      ·(rw [← kef.out]) <;> (try rfl)
      ·rw [← kef.out]; exact kS3.out
     ·rw [if_neg h0] at hst hle
      simp only [List.length_append, List.length_cons, List.length_nil] at hle
      generalize hcur : l0 ++ (wT kUpto :: dT nn :: tokU true (l.take i)) = cl at *
      have c0 := put_eq hS (by omega) [101, 108, 115, 101]
      have S0 := hS.next (nT kElse)
      have G0 := hG.app_ls hS
      have c1 := mark_eq S0 (by simp only [List.length_append, List.length_cons, List.length_nil]; omega) [40]
      have S1 := S0.next (sT cOpen)
      have G1 := G0.app_ls S0
      have lenc : ((cl ++ [nT kElse]) ++ [sT cOpen]).length = cl.length + 2 := by simp
      obtain ⟨r2, h2, c2, tok2, sz2, rfl, G2, S2⟩ := kih.out y (List.mem_of_getElem? hy) r hyr n0 _ _ _ _ S1 (by rw [List.length_append]; omega)
      have c3 := mark_eq S2 (by simp only [List.length_append, List.length_cons, List.length_nil]; omega) [41]
      have S3 := S2.next (sT cClose)
      have G3 := (G1.trans G2).app_ls S2
      have b0 : (h'.app tok').boxes[h.boxes.length]? = some (row5 k nn no s tk 5 rows) := by rw [app_boxes]; exact hb
      have b1 : ((h'.app tok').app (.free h'.tn)).boxes[h.boxes.length]? = some (row5 k nn no s tk 5 rows) := by rw [app_boxes]; exact b0
      have b3 : (h2.app tok2).boxes[h.boxes.length]? = some (row5 k nn no s tk 5 rows) := by rw [app_boxes]; exact G2.box b1
      have kG3 := Keep.mk G3
      have kS3 := Keep.mk S3
      have efin : (((cl ++ [nT kElse]) ++ [sT cOpen]) ++ tokE y) ++ [sT cClose] = l0 ++ (wT kUpto :: dT nn :: tokU true (l.take (i + 1))) := by
       rw [hst, ← hcur]
       simp
      have kef := Keep.mk efin
      have h0' : (0 : Int) < (i : Int) := by omega
      simp only [cOpen, cClose, kElse] at c0 c1 c2 c3
      have sl : sameAV (.list tk 5 rows) (.list tk 5 rows) = true := same_listE kr.out tk 5
      have sr : sameAV (.agg r) (.agg r) = true := by have := Row.same _ _ hyr; rw [sameAV]; exact this
      clear hG hS G0 S0 G1 S1 G2 S2 G3 S3 hst hle efin hcur hyr hy h0 cur
      repeat' (first | simp (config := { maxSteps := 4000000 }) (disch := first | exact dZ | fail) only [goS, plainEv, resultsEv, resultListEv, reduceIte, Nat.reduceEqDiff, goT, beq_self_eq_true, goH, goU, rs89, r5c, fa26_4, q5_4, index_list, load_row_agg, *] | (refine dX ?_ ?_ <;> (intro _; try (exfalso; omega))) | (refine dY ?_ ?_ <;> intro _) | fail)
      refine run_draw_but [(1, 3), (1, 6)] (by kernel_rfl) ?_ ?_
      ·intro pr hp
       simp only [List.mem_cons, List.not_mem_nil, or_false] at hp
       rcases hp with rfl | rfl
       ·refine stable_behind (x := .ptr (.box h.boxes.length) (0 + 4)) (v := .list tk 5 rows) (by kernel_rfl) rfl rfl rfl (by kernel_rfl) sl ?_ ?_
        ·simp only [List.take_succ_cons, List.take_zero]
         repeat' (first | simp (config := { maxSteps := 4000000 }) (disch := first | exact dZ | fail) only [goS, plainEv, resultsEv, resultListEv, reduceIte, Nat.reduceEqDiff, goT, beq_self_eq_true, goH, goU, fa26_4, q5_4, *] | (refine dX ?_ ?_ <;> (intro _; try (exfalso; omega))) | (refine dY ?_ ?_ <;> intro _) | fail)
         exact ⟨by trivial, by trivial, by trivial⟩
        ·simp only [List.take_succ_cons, List.take_zero]
         repeat' (first | simp (config := { maxSteps := 4000000 }) (disch := first | exact dZ | fail) only [goS, plainEv, resultsEv, resultListEv, reduceIte, Nat.reduceEqDiff, goT, beq_self_eq_true, goH, goU, fa26_4, q5_4, *] | (refine dX ?_ ?_ <;> (intro _; try (exfalso; omega))) | (refine dY ?_ ?_ <;> intro _) | fail)
         exact ⟨by trivial, by trivial⟩
       ·refine stable_behind (x := .elem 5 rows i 0) (v := .agg r) (by kernel_rfl) rfl rfl rfl (by kernel_rfl) sr ?_ ?_
        ·simp only [List.take_succ_cons, List.take_zero]
         repeat' (first | simp (config := { maxSteps := 4000000 }) (disch := first | exact dZ | fail) only [goS, plainEv, resultsEv, resultListEv, reduceIte, Nat.reduceEqDiff, goT, beq_self_eq_true, goH, goU, fa26_4, q5_4, index_list, load_row_agg, *] | (refine dX ?_ ?_ <;> (intro _; try (exfalso; omega))) | (refine dY ?_ ?_ <;> intro _) | fail)
         exact ⟨by trivial, by trivial, by trivial⟩
        ·simp only [List.take_succ_cons, List.take_zero]
         repeat' (first | simp (config := { maxSteps := 4000000 }) (disch := first | exact dZ | fail) only [goS, plainEv, resultsEv, resultListEv, reduceIte, Nat.reduceEqDiff, goT, beq_self_eq_true, goH, goU, fa26_4, q5_4, index_list, load_row_agg, *] | (refine dX ?_ ?_ <;> (intro _; try (exfalso; omega))) | (refine dY ?_ ?_ <;> intro _) | fail)
         exact ⟨by trivial, by trivial⟩
      repeat' (first | simp (config := { maxSteps := 4000000 }) (disch := first | exact dZ | fail) only [goS, plainEv, resultsEv, resultListEv, reduceIte, Nat.reduceEqDiff, goT, beq_self_eq_true, goH, goU, rs89, r5c, fa26_4, q5_4, index_list, load_row_agg, *] | (refine dX ?_ ?_ <;> (intro _; try (exfalso; omega))) | (refine dY ?_ ?_ <;> intro _) | fail)
      refine ⟨l.length - (i + 1), by omega, i + 1, .free h2.tn, 4, by omega, rfl, ?_, (by first | trivial | (simp; done) | (simp; omega)), (by first | trivial | (simp; done) | (simp; omega)), (by first | trivial | (simp; done) | (simp; omega)), kG3.out, ?_, by first | exact b3 | trivial⟩
      ·(rw [← kef.out]) <;> (try rfl)
      ·rw [← kef.out]; exact kS3.out
    ·have hie : i = l.length := by omega
     have hlt3 : ¬ ((i : Int) < (rows.length : Int)) := by rw [hrl]; omega
     have kS4 := Keep.mk hS
     rw [hie, List.take_length] at kS4 g0
     clear hG hS hie
     repeat' (first | simp (config := { maxSteps := 4000000 }) (disch := first | exact dZ | fail) only [goS, plainEv, resultsEv, resultListEv, reduceIte, Nat.reduceEqDiff, goT, beq_self_eq_true, goH, goU, rs89, r5c, fa26_4, q5_4, *] | (refine dX ?_ ?_ <;> (intro _; try (exfalso; omega))) | (refine dY ?_ ?_ <;> intro _) | fail)
     exact ⟨_, _, rfl, _, _, rfl, kG'.out, kS4.out⟩
   ·refine ⟨0, .free ((h.push (row5 k nn no s tk szr rows)).app tok).tn, 4, Nat.zero_le _, rfl, ?_, ?_, ?_, ?_, kG.out, ?_, ?_⟩
    ·(try simp only [goS, plainEv, resultsEv, resultListEv, reduceIte, Nat.reduceEqDiff, goT, beq_self_eq_true, goH]); rw [List.take_zero, ← e0]; rfl
    ·first | rfl | simp only [goS, plainEv, resultsEv, resultListEv, reduceIte, Nat.reduceEqDiff, goT, beq_self_eq_true, goH]
    ·(try simp only [goS, plainEv, resultsEv, resultListEv, reduceIte, Nat.reduceEqDiff, goT, beq_self_eq_true, goH]); rfl
    ·first | rfl | simp only [goS, plainEv, resultsEv, resultListEv, reduceIte, Nat.reduceEqDiff, goT, beq_self_eq_true, goH]
    ·rw [List.take_zero, ← e0]; exact kS.out
    ·exact pb2
  rw [if_neg h4] at hl ⊢
  have d4 : decide (k = 4) = false := decide_eq_false h4
  have hll := tokC_len l true
  simp only [List.length_append, List.length_cons, List.length_nil] at hl
  have c1 := digits_eq S0 (by omega) nn
  have S1 := S0.next (dT nn)
  have G1 := G0.app_ls S0
  have c2 := put_eq S1 (by simp only [List.length_append, List.length_cons, List.length_nil]; omega) [111, 102]
  have S2 := S1.next (nT kOf)
  have G2 := G1.app_ls S1
  have c3 := mark_eq S2 (by simp only [List.length_append, List.length_cons, List.length_nil]; omega) [40]
  have S3 := S2.next (sT cOpen)
  have G3 := G2.app_ls S2
  have pb3 : ((((h.push (row5 k nn no s tk szr rows)).app tok).app (.free (h.push (row5 k nn no s tk szr rows)).tn)).app (.free ((h.push (row5 k nn no s tk szr rows)).app tok).tn)).boxes[h.boxes.length]? = some (row5 k nn no s tk szr rows) := by rw [app_boxes, app_boxes, app_boxes]; exact pb
  have e0 : ((l0 ++ [dT nn]) ++ [nT kOf]) ++ [sT cOpen] = l0 ++ (dT nn :: wT kOf :: wT cOpen :: tokC true []) := by rw [tokC, List.append_assoc, List.append_assoc]; rfl
  have kS := Keep.mk S3
  have kG := Keep.mk G3
  have khl := Keep.mk hl
  clear S S0 S1 S2 S3 G0 G1 G2 G3 hrow hrows hsz ih h1 h2 h4 hl
  simp only [kOf, cOpen] at c1 c2 c3 kS
  refine call_post rfl Tryz.func89 rfl ?_
  repeat' (first | simp (config := { maxSteps := 4000000 }) (disch := first | exact dZ | fail) only [goS, plainEv, resultsEv, resultListEv, reduceIte, Nat.reduceEqDiff, goT, beq_self_eq_true, goH, goU, rs89, r5c, fa26_0, fa26_1, fa26_3, fa26_4, q5_0, q5_1, q5_3, q5_4, *] | (refine dX ?_ ?_ <;> (intro _; try (exfalso; omega))) | (refine dY ?_ ?_ <;> intro _) | fail)
  refine run_loop (fun m e h' => ∃ (i : Nat) (tok' : Tok) (sz' : Nat), i ≤ l.length ∧ m = l.length - i ∧ e.get 0 = .list tok' sz' (toks (l0 ++ (dT nn :: wT kOf :: wT cOpen :: tokC true (l.take i)))) ∧ e.get 3 = .ptr (.box h.boxes.length) 0 ∧ e.get 6 = .v (.int .i64 i) ∧ e.defers = [] ∧ Gr n0 h h' ∧ Ls n0 h' tok' sz' (l0 ++ (dT nn :: wT kOf :: wT cOpen :: tokC true (l.take i))) ∧ h'.boxes[h.boxes.length]? = some (row5 k nn no s tk szr rows)) ?_ l.length _ _ ?_
  ·rintro m e h' ⟨i, tok', sz', hi, rfl, g0, g3, g5, hd, hG, hS, hb⟩
   have kG' := Keep.mk hG
   by_cases hlt : i < l.length
   ·obtain ⟨y, r, hy, hr, hyr⟩ := kr.out.get hlt
    have h5 := kz.out i hlt
    subst h5
    have hlt3 : (i : Int) < (rows.length : Int) := by rw [hrl]; omega
    have hrl5 := hyr.len
    have ht5 := take5 hrl5
    have hle5 : 5 ≤ (r.drop 0).length := by rw [List.drop_zero]; omega
    have hst := tokC_step hy
    have hle := tokC_le l (i + 1)
    have kl := khl.out
    rw [hst] at hle
    have cur : (l0 ++ (dT nn :: wT kOf :: wT cOpen :: tokC true (l.take i))).length = l0.length + 3 + (tokC true (l.take i)).length := by simp only [List.length_append, List.length_cons]; omega
    by_cases h0 : i = 0
    ·rw [if_pos h0, List.nil_append] at hst hle
     simp only [List.length_append, List.length_cons, List.length_nil] at hle
     generalize hcur : l0 ++ (dT nn :: wT kOf :: wT cOpen :: tokC true (l.take i)) = cl at *
     obtain ⟨r2, h2, c2, tok2, sz2, rfl, G2, S2⟩ := kih.out y (List.mem_of_getElem? hy) r hyr n0 _ _ _ _ hS (by rw [List.length_append]; omega)
     have b3 : h2.boxes[h.boxes.length]? = some (row5 k nn no s tk 5 rows) := G2.box hb
     have kG3 := Keep.mk (hG.trans G2)
     have kS3 := Keep.mk S2
     have efin : cl ++ tokE y = l0 ++ (dT nn :: wT kOf :: wT cOpen :: tokC true (l.take (i + 1))) := by
      rw [hst, ← hcur]
      simp
     have kef := Keep.mk efin
     have h0' : ¬ (0 : Int) < (i : Int) := by omega
     clear hG hS G2 S2 hst hle efin hcur hyr hy h0 cur
     repeat' (first | simp (config := { maxSteps := 4000000 }) (disch := first | exact dZ | fail) only [goS, plainEv, resultsEv, resultListEv, reduceIte, Nat.reduceEqDiff, goT, beq_self_eq_true, goH, goU, rs89, r5c, fa26_4, q5_4, index_list, load_row_agg, *] | (refine dX ?_ ?_ <;> (intro _; try (exfalso; omega))) | (refine dY ?_ ?_ <;> intro _) | fail)
     refine ⟨l.length - (i + 1), by omega, i + 1, tok2, sz2, by omega, rfl, ?_, (by first | trivial | (simp; done) | (simp; omega)), (by first | trivial | (simp; done) | (simp; omega)), (by first | trivial | (simp; done) | (simp; omega)), kG3.out, ?_, by first | exact b3 | trivial⟩
     ·(rw [← kef.out]) <;> (try rfl)
     ·rw [← kef.out]; exact kS3.out
    ·rw [if_neg h0] at hst hle
     simp only [List.length_append, List.length_cons, List.length_nil] at hle
     generalize hcur : l0 ++ (dT nn :: wT kOf :: wT cOpen :: tokC true (l.take i)) = cl at *
     have c0 := mark_eq hS (by omega) [44]
     have S0 := hS.next (sT cComma)
     have G0 := hG.app_ls hS
     obtain ⟨r2, h2, c2, tok2, sz2, rfl, G2, S2⟩ := kih.out y (List.mem_of_getElem? hy) r hyr n0 _ _ _ _ S0 (by simp only [List.length_append, List.length_cons, List.length_nil]; omega)
     have b0 : (h'.app tok').boxes[h.boxes.length]? = some (row5 k nn no s tk 5 rows) := by rw [app_boxes]; exact hb
     have b3 : h2.boxes[h.boxes.length]? = some (row5 k nn no s tk 5 rows) := G2.box b0
     have kG3 := Keep.mk (G0.trans G2)
     have kS3 := Keep.mk S2
     have efin : (cl ++ [sT cComma]) ++ tokE y = l0 ++ (dT nn :: wT kOf :: wT cOpen :: tokC true (l.take (i + 1))) := by
      rw [hst, ← hcur]
      simp
     have kef := Keep.mk efin
     have h0' : (0 : Int) < (i : Int) := by omega
     simp only [cComma] at c0 c2
     clear hG hS G0 S0 G2 S2 hst hle efin hcur hyr hy h0 cur
     repeat' (first | simp (config := { maxSteps := 4000000 }) (disch := first | exact dZ | fail) only [goS, plainEv, resultsEv, resultListEv, reduceIte, Nat.reduceEqDiff, goT, beq_self_eq_true, goH, goU, rs89, r5c, fa26_4, q5_4, index_list, load_row_agg, *] | (refine dX ?_ ?_ <;> (intro _; try (exfalso; omega))) | (refine dY ?_ ?_ <;> intro _) | fail)
     refine ⟨l.length - (i + 1), by omega, i + 1, tok2, sz2, by omega, rfl, ?_, (by first | trivial | (simp; done) | (simp; omega)), (by first | trivial | (simp; done) | (simp; omega)), (by first | trivial | (simp; done) | (simp; omega)), kG3.out, ?_, by first | exact b3 | trivial⟩
     ·(rw [← kef.out]) <;> (try rfl)
     ·rw [← kef.out]; exact kS3.out
   ·have hie : i = l.length := by omega
    have hlt3 : ¬ ((i : Int) < (rows.length : Int)) := by rw [hrl]; omega
    rw [hie, List.take_length] at hS g0
    have kl := khl.out
    have c4 := mark_eq hS (by simp only [List.length_append, List.length_cons]; omega) [41]
    have kS4 := Keep.mk (hS.next (sT cClose))
    have kG4 := Keep.mk (hG.app_ls hS)
    have ef : (l0 ++ (dT nn :: wT kOf :: wT cOpen :: tokC true l)) ++ [sT cClose] = l0 ++ (dT nn :: wT kOf :: wT cOpen :: (tokC true l ++ [wT cClose])) := by simp; rfl
    rw [← ef]
    clear hG hS hie ef
    repeat' (first | simp (config := { maxSteps := 4000000 }) (disch := first | exact dZ | fail) only [goS, plainEv, resultsEv, resultListEv, reduceIte, Nat.reduceEqDiff, goT, beq_self_eq_true, goH, goU, rs89, r5c, fa26_4, q5_4, *] | (refine dX ?_ ?_ <;> (intro _; try (exfalso; omega))) | (refine dY ?_ ?_ <;> intro _) | fail)
    exact ⟨_, _, rfl, _, _, rfl, kG4.out, kS4.out⟩
  ·refine ⟨0, .free (((h.push (row5 k nn no s tk szr rows)).app tok).app (.free (h.push (row5 k nn no s tk szr rows)).tn)).tn, 4, Nat.zero_le _, rfl, ?_, ?_, ?_, ?_, kG.out, ?_, ?_⟩
   ·(try simp only [goS, plainEv, resultsEv, resultListEv, reduceIte, Nat.reduceEqDiff, goT, beq_self_eq_true, goH]); rw [List.take_zero, ← e0]; rfl
   ·first | rfl | simp only [goS, plainEv, resultsEv, resultListEv, reduceIte, Nat.reduceEqDiff, goT, beq_self_eq_true, goH]
   ·(try simp only [goS, plainEv, resultsEv, resultListEv, reduceIte, Nat.reduceEqDiff, goT, beq_self_eq_true, goH]); rfl
   ·first | rfl | simp only [goS, plainEv, resultsEv, resultListEv, reduceIte, Nat.reduceEqDiff, goT, beq_self_eq_true, goH]
   ·rw [List.take_zero, ← e0]; exact kS.out
   ·exact pb3
end Go.Proofs.YtmdakolcndpjeaaGreatDoor
end

section
namespace Go.Proofs.YtmdakolcndpjeaaGreatDoor
open Go.AE Go.Lex Go.Pol Go.Syn
theorem rs32 : Tryz.f32.results.toList = [.tmp 2] := by kernel_rfl
section
variable {n0 : Nat} {h : Heap} {tok : Tok} {sz : Nat} {l : List Tk}
theorem put_x (s : Ls n0 h tok sz l) (hl : l.length ≤ 1000000000) (x : List UInt8) : ∃ tok' h', W.call 88 [.list tok sz (toks l), .v (.string (bs x))] h = some (.ret (.list tok' 4 (toks (l ++ [nT x]))), h') ∧ Gr n0 h h' ∧ Ls n0 h' tok' 4 (l ++ [nT x]) := ⟨_, _, put_eq s hl x, (Gr.refl n0 h).app_ls s, s.next (nT x)⟩
theorem mark_x (s : Ls n0 h tok sz l) (hl : l.length ≤ 1000000000) (x : List UInt8) : ∃ tok' h', W.call 84 [.list tok sz (toks l), .v (.string (bs x))] h = some (.ret (.list tok' 4 (toks (l ++ [sT x]))), h') ∧ Gr n0 h h' ∧ Ls n0 h' tok' 4 (l ++ [sT x]) := ⟨_, _, mark_eq s hl x, (Gr.refl n0 h).app_ls s, s.next (sT x)⟩
theorem digits_x (s : Ls n0 h tok sz l) (hl : l.length ≤ 1000000000) (n : Int) : ∃ tok' h', W.call 87 [.list tok sz (toks l), .v (.int .i64 n)] h = some (.ret (.list tok' 4 (toks (l ++ [dT n]))), h') ∧ Gr n0 h h' ∧ Ls n0 h' tok' 4 (l ++ [dT n]) := ⟨_, _, digits_eq s hl n, (Gr.refl n0 h).app_ls s, s.next (dT n)⟩
theorem puts_x (s : Ls n0 h tok sz l) (hl : l.length ≤ 999999999) (x y : List UInt8) : ∃ tok' h', W.call 85 [.list tok sz (toks l), .v (.string (bs x)), .v (.string (bs y))] h = some (.ret (.list tok' 4 (toks ((l ++ [nT x]) ++ [nT y]))), h') ∧ Gr n0 h h' ∧ Ls n0 h' tok' 4 ((l ++ [nT x]) ++ [nT y]) := ⟨_, _, puts_eq s hl x y, ((Gr.refl n0 h).app_ls s).app_ls (s.next (nT x)), s.next2 (nT x) (nT y)⟩
end
theorem sameP5 {p : Po} {t : PT} (ok : POk p t) : sameAV (.agg (p5 p t)) (.agg (p5 p t)) = true := by rw [sameAV]; exact Row.same _ _ ok.expr
theorem zc62' : (zeroA Tryz.prog 62).bind AV.cellsO = some (rrow ⟨[], 0, 0, .mk 0 0 0 [] []⟩ .nil 0 []) := by kernel_rfl
theorem stz62 {h : Heap} {c : Nat} {x y : Rl} {tok tok' : Tok} {sz sz' : Nat} {rows rows' : List (List AV)} (hb : h.boxes[c]? = some (rrow y tok sz rows)) : storeEv Tryz.prog h 62 (.ptr (.box c) 0) (.agg (rrow x tok' sz' rows')) = some (h.put c (rrow x tok' sz' rows')) := store_box (off := 0) (cs := rrow y tok sz rows) (xs := rrow x tok' sz' rows') rfl sz62 hb rfl (Nat.le_refl 8)
theorem pre_len (p : Po) : (pre0 p).length ≤ (pre1 p).length ∧ (pre1 p).length ≤ (pre2 p).length ∧ (pre2 p).length ≤ (pre3 p).length ∧ (pre3 p).length + (tokE p.change).length + 3 = (tokP p).length := by
 rw [tokP_pre]
 simp only [pre1, pre2, pre3, List.length_append, List.length_cons, List.length_nil]
 omega
theorem tokens_ev (p : Po) (t : PT) (ok : POk p t) (hlen : (tokP p).length ≤ 999999000) (h : Heap) (ho : okHeap h = true) : ∃ r h', W.call 32 [.agg (prow p t)] h = some (r, h') ∧ PutPost h.tn h (tokP p) r h' := by
 have u22 := Tryz.underlying22; have u23 := Tryz.underlying23; have u9 := Tryz.underlying9
 have a3 := ag3; have a9 := ag9; have a22 := ag22; have a23 := ag23; have a26 := ag26; have a28 := ag28; have a62 := ag62; have s26 := sz26; have s28 := sz28; have s62 := sz62; have z62 := zc62'; have s9 := sz9
 have hrl := ok.rules.1
 have kok := Keep.mk ok
 obtain ⟨L0, L1, L2, L3⟩ := pre_len p
 have S0 : Ls h.tn (h.push (prow p t)) .nil 0 [] := ⟨.inl rfl, .inr ⟨rfl, rfl⟩, ho, Nat.le_refl _⟩
 have G0 : Gr h.tn h (h.push (prow p t)) := (Gr.refl _ h).push _
 have pb := push_last h (prow p t)
 obtain ⟨k1, h1, c1, g1, S1⟩ := puts_x S0 (by simp) [112, 111, 108, 105, 99, 121] p.name
 have c1 : W.call 85 [.list .nil 0 [], .v (.string (bs [112, 111, 108, 105, 99, 121])), .v (.string (bs p.name))] (h.push (prow p t)) = _ := c1
 obtain ⟨k2, h2, c2, g2, S2⟩ := mark_x S1 (by simp) [59]
 have cm := modes_ev2 p.mode h2
 obtain ⟨k3, h3, c3, g3, S3⟩ := puts_x S2 (by simp) [109, 111, 100, 101] (modeS p.mode)
 obtain ⟨k4, h4, c4, g4, S4⟩ := mark_x S3 (by simp) [59]
 have b1 := g1.box pb
 have b2 := g2.box b1
 have b4 := g4.box (g3.box b2)
 have kG := Keep.mk (G0.trans (g1.trans (g2.trans (g3.trans g4))))
 have e0 : (((((([] ++ [nT kPolicy]) ++ [nT p.name]) ++ [sT cSemi]) ++ [nT kMode]) ++ [nT (modeS p.mode)]) ++ [sT cSemi]) = pre0 p ++ tokD kOffice (p.offices.take 0) := by rfl
 have S4 : Ls h.tn h4 k4 4 (pre0 p ++ tokD kOffice (p.offices.take 0)) := by rw [← e0]; exact S4
 have c4 : W.call 84 [.list k3 4 (toks ((([] ++ [nT [112, 111, 108, 105, 99, 121]] ++ [nT p.name]) ++ [sT [59]]) ++ [nT [109, 111, 100, 101]] ++ [nT (modeS p.mode)])), .v (.string (bs [59]))] h3 = some (.ret (.list k4 4 (toks (pre0 p ++ tokD kOffice (p.offices.take 0)))), h4) := by rw [← e0]; exact c4
 have kS := Keep.mk S4
 simp only [List.nil_append] at c1 c2 c3 c4
 clear S0 S1 S2 S3 S4 g1 g2 g3 g4 G0 e0 ok
 refine call_post rfl Tryz.func32 rfl ?_
 repeat' (first | simp (config := { maxSteps := 4000000 }) (disch := first | exact dZ | fail) only [goS, plainEv, resultsEv, resultListEv, reduceIte, Nat.reduceEqDiff, goT, beq_self_eq_true, goH, goU, rs32, fp28, prs, *] | (refine dX ?_ ?_ <;> (intro _; try (exfalso; omega))) | (refine dY ?_ ?_ <;> intro _) | fail)
 refine run_loop (fun m e h' => ∃ (i : Nat) (tok' : Tok), i ≤ p.offices.length ∧ m = p.offices.length - i ∧ e.get 1 = .ptr (.box h.boxes.length) 0 ∧ e.get 3 = .list tok' 4 (toks (pre0 p ++ tokD kOffice (p.offices.take i))) ∧ e.get 4 = .v (.int .i64 i) ∧ e.defers = [] ∧ Gr h.tn h h' ∧ Ls h.tn h' tok' 4 (pre0 p ++ tokD kOffice (p.offices.take i)) ∧ h'.boxes[h.boxes.length]? = some (prow p t)) ?_ p.offices.length _ _ ?_
 ·rintro m e h' ⟨i, tok', hi, rfl, g1, g3, g5, hd, hG, hS, hb⟩
  have kG := Keep.mk hG
  by_cases hlt : i < p.offices.length
  ·have hbo := kok.out.bo
   obtain ⟨x, hx⟩ : ∃ t, p.offices[i]? = some t := ⟨_, List.getElem?_eq_getElem hlt⟩
   have hz := kok.out.zo i hlt
   have hlt3 : (i : Int) < ((strs p.offices).length : Int) := by rw [strs_len]; omega
   have hle := flat_le p.offices (fun x => [wT kOffice, nT x, wT cSemi]) i
   have hle : (tokD kOffice (p.offices.take i)).length ≤ (tokD kOffice p.offices).length := hle
   have hac : (pre0 p ++ tokD kOffice p.offices).length ≤ (tokP p).length := by
    show (pre1 p).length ≤ _
    omega
   rw [List.length_append] at hac
   have cur : (pre0 p ++ tokD kOffice (p.offices.take i)).length ≤ 999999000 := by rw [List.length_append]; omega
   have est : tokD kOffice (p.offices.take (i + 1)) = tokD kOffice (p.offices.take i) ++ [wT kOffice, nT x, wT cSemi] := flat_take _ hx
   generalize hcl : pre0 p ++ tokD kOffice (p.offices.take i) = cl at *
   obtain ⟨k1, h1, c1, q1, S1⟩ := puts_x hS (by omega) [111, 102, 102, 105, 99, 101] x
   obtain ⟨k2, h2, c2, q2, S2⟩ := mark_x S1 (by simp only [List.length_append, List.length_cons, List.length_nil]; omega) [59]
   have efin : ((cl ++ [nT kOffice]) ++ [nT x]) ++ [sT cSemi] = pre0 p ++ tokD kOffice (p.offices.take (i + 1)) := by
    rw [est, ← hcl]
    simp only [List.append_assoc]
    rfl
   have kef := Keep.mk efin
   have b3 := q2.box (q1.box hb)
   have kG3 := Keep.mk (hG.trans (q1.trans q2))
   have kS3 := Keep.mk S2
   clear hG hS q1 q2 S1 S2 efin hcl est hle hac cur
   repeat' (first | simp (config := { maxSteps := 4000000 }) (disch := first | exact dZ | fail) only [goS, plainEv, resultsEv, resultListEv, reduceIte, Nat.reduceEqDiff, goT, beq_self_eq_true, goH, goU, rs32, fp28, prs, strs_len, strs_get, index_list, load_row, cell_one, *] | (refine dX ?_ ?_ <;> (intro _; try (exfalso; omega))) | (refine dY ?_ ?_ <;> intro _) | fail)
   refine ⟨p.offices.length - (i + 1), by omega, i + 1, k2, by omega, rfl, (by first | trivial | (simp; done) | (simp; omega)), ?_, (by first | trivial | (simp; done) | (simp; omega)), (by first | trivial | (simp; done) | (simp; omega)), kG3.out, ?_, by first | exact b3 | trivial⟩
   ·(rw [← kef.out]) <;> (try rfl)
   ·rw [← kef.out]; exact kS3.out
  ·have hie : i = p.offices.length := by omega
   have hlt3 : ¬ ((i : Int) < (p.offices.length : Int)) := by omega
   rw [hie, List.take_length] at hS g3
   have e1 : pre0 p ++ tokD kOffice p.offices = pre1 p ++ tokD kKind (p.kinds.take 0) := by simp [pre1, tokD]
   rw [e1] at hS g3
   have kS := Keep.mk hS
   clear hG hS e1 hie
   repeat' (first | simp (config := { maxSteps := 4000000 }) (disch := first | exact dZ | fail) only [goS, plainEv, resultsEv, resultListEv, reduceIte, Nat.reduceEqDiff, goT, beq_self_eq_true, goH, goU, rs32, fp28, prs, strs_len, *] | (refine dX ?_ ?_ <;> (intro _; try (exfalso; omega))) | (refine dY ?_ ?_ <;> intro _) | fail)
   refine run_loop (fun m e h' => ∃ (i : Nat) (tok' : Tok), i ≤ p.kinds.length ∧ m = p.kinds.length - i ∧ e.get 1 = .ptr (.box h.boxes.length) 0 ∧ e.get 3 = .list tok' 4 (toks (pre1 p ++ tokD kKind (p.kinds.take i))) ∧ e.get 5 = .v (.int .i64 i) ∧ e.defers = [] ∧ Gr h.tn h h' ∧ Ls h.tn h' tok' 4 (pre1 p ++ tokD kKind (p.kinds.take i)) ∧ h'.boxes[h.boxes.length]? = some (prow p t)) ?_ p.kinds.length _ _ ?_
   ·rintro m e h' ⟨i, tok', hi, rfl, g1, g3, g5, hd, hG, hS, hb⟩
    have kG := Keep.mk hG
    by_cases hlt : i < p.kinds.length
    ·have hbo := kok.out.bk
     obtain ⟨x, hx⟩ : ∃ t, p.kinds[i]? = some t := ⟨_, List.getElem?_eq_getElem hlt⟩
     have hz := kok.out.zk i hlt
     have hlt3 : (i : Int) < ((strs p.kinds).length : Int) := by rw [strs_len]; omega
     have hle := flat_le p.kinds (fun x => [wT kKind, nT x, wT cSemi]) i
     have hle : (tokD kKind (p.kinds.take i)).length ≤ (tokD kKind p.kinds).length := hle
     have hac : (pre1 p ++ tokD kKind p.kinds).length ≤ (tokP p).length := by
      show (pre2 p).length ≤ _
      omega
     rw [List.length_append] at hac
     have cur : (pre1 p ++ tokD kKind (p.kinds.take i)).length ≤ 999999000 := by rw [List.length_append]; omega
     have est : tokD kKind (p.kinds.take (i + 1)) = tokD kKind (p.kinds.take i) ++ [wT kKind, nT x, wT cSemi] := flat_take _ hx
     generalize hcl : pre1 p ++ tokD kKind (p.kinds.take i) = cl at *
     obtain ⟨k1, h1, c1, q1, S1⟩ := puts_x hS (by omega) [107, 105, 110, 100] x
     obtain ⟨k2, h2, c2, q2, S2⟩ := mark_x S1 (by simp only [List.length_append, List.length_cons, List.length_nil]; omega) [59]
     have efin : ((cl ++ [nT kKind]) ++ [nT x]) ++ [sT cSemi] = pre1 p ++ tokD kKind (p.kinds.take (i + 1)) := by
      rw [est, ← hcl]
      simp only [List.append_assoc]
      rfl
     have kef := Keep.mk efin
     have b3 := q2.box (q1.box hb)
     have kG3 := Keep.mk (hG.trans (q1.trans q2))
     have kS3 := Keep.mk S2
     clear hG hS q1 q2 S1 S2 efin hcl est hle hac cur
     repeat' (first | simp (config := { maxSteps := 4000000 }) (disch := first | exact dZ | fail) only [goS, plainEv, resultsEv, resultListEv, reduceIte, Nat.reduceEqDiff, goT, beq_self_eq_true, goH, goU, rs32, fp28, prs, strs_len, strs_get, index_list, load_row, cell_one, *] | (refine dX ?_ ?_ <;> (intro _; try (exfalso; omega))) | (refine dY ?_ ?_ <;> intro _) | fail)
     refine ⟨p.kinds.length - (i + 1), by omega, i + 1, k2, by omega, rfl, (by first | trivial | (simp; done) | (simp; omega)), ?_, (by first | trivial | (simp; done) | (simp; omega)), (by first | trivial | (simp; done) | (simp; omega)), kG3.out, ?_, by first | exact b3 | trivial⟩
     ·(rw [← kef.out]) <;> (try rfl)
     ·rw [← kef.out]; exact kS3.out
    ·have hie : i = p.kinds.length := by omega
     have hlt3 : ¬ ((i : Int) < (p.kinds.length : Int)) := by omega
     rw [hie, List.take_length] at hS g3
     have e1 : pre1 p ++ tokD kKind p.kinds = pre2 p ++ (p.rules.take 0).flatMap tokR := by simp [pre2]
     rw [e1] at hS g3
     have kS := Keep.mk hS
     clear hG hS e1 hie
     repeat' (first | simp (config := { maxSteps := 4000000 }) (disch := first | exact dZ | fail) only [goS, plainEv, resultsEv, resultListEv, reduceIte, Nat.reduceEqDiff, goT, beq_self_eq_true, goH, goU, rs32, fp28, prs, strs_len, *] | (refine dX ?_ ?_ <;> (intro _; try (exfalso; omega))) | (refine dY ?_ ?_ <;> intro _) | fail)
     refine run_loop (fun m e h' => ∃ (i : Nat) (tok' : Tok), i ≤ p.rules.length ∧ m = p.rules.length - i ∧ e.get 1 = .ptr (.box h.boxes.length) 0 ∧ e.get 3 = .list tok' 4 (toks (pre2 p ++ (p.rules.take i).flatMap tokR)) ∧ e.get 6 = .v (.int .i64 i) ∧ e.defers = [] ∧ Gr h.tn h h' ∧ Ls h.tn h' tok' 4 (pre2 p ++ (p.rules.take i).flatMap tokR) ∧ h'.boxes[h.boxes.length]? = some (prow p t)) ?_ p.rules.length _ _ ?_
     ·rintro m e h' ⟨i, tok', hi, rfl, g1, g3, g5, hd, hG, hS, hb⟩
      have kG := Keep.mk hG
      by_cases hlt : i < p.rules.length
      ·obtain ⟨x, tkx, szx, rowsx, hx, hr, hrow⟩ := RRows.get kok.out.rules hlt
       have h8 := kok.out.zr i hlt
       have hlt3 : (i : Int) < (t.rr.length : Int) := by rw [hrl]; omega
       have rf8 := @rrow_fit8 x tkx szx rowsx
       have hbr := kok.out.br
       have hle := flat_le p.rules tokR (i + 1)
       have est : (p.rules.take (i + 1)).flatMap tokR = (p.rules.take i).flatMap tokR ++ tokR x := flat_take _ hx
       rw [est, List.length_append] at hle
       have hac : (pre2 p ++ p.rules.flatMap tokR).length ≤ (tokP p).length := by
        show (pre3 p).length ≤ _
        omega
       rw [List.length_append] at hac
       have lx : (tokR x).length = 6 + (tokE x.expr).length := by simp [tokR]; omega
       have cur : (pre2 p ++ (p.rules.take i).flatMap tokR).length + (tokR x).length ≤ 999999000 := by rw [List.length_append]; omega
       generalize hcl : pre2 p ++ (p.rules.take i).flatMap tokR = cl at *
       have SP := hS.push (rrow x tkx szx rowsx)
       have bP := push_last h' (rrow x tkx szx rowsx)
       obtain ⟨k1, h1, c1, q1, S1⟩ := puts_x SP (by omega) [114, 117, 108, 101] x.kind
       obtain ⟨k2, h2, c2, q2, S2⟩ := put_x S1 (by simp only [List.length_append, List.length_cons, List.length_nil]; omega) [116, 104, 105, 110, 107]
       obtain ⟨k3, h3, c3, q3, S3⟩ := digits_x S2 (by simp only [List.length_append, List.length_cons, List.length_nil]; omega) x.think
       obtain ⟨k4, h4, c4, q4, S4⟩ := mark_x S3 (by simp only [List.length_append, List.length_cons, List.length_nil]; omega) [61]
       obtain ⟨r5, h5, c5, k5, z5, rfl, q5, S5⟩ := puts_expr x.expr _ hrow h.tn _ _ _ _ S4 (by simp only [List.length_append, List.length_cons, List.length_nil]; omega)
       obtain ⟨k6, h6, c6, q6, S6⟩ := mark_x S5 (by simp only [List.length_append, List.length_cons, List.length_nil]; omega) [59]
       have b1 := q1.box bP
       have b2 := q2.box b1
       have b4 := q4.box (q3.box b2)
       have n1 := (List.getElem?_eq_some_iff.1 b1).1
       have n2 := (List.getElem?_eq_some_iff.1 b2).1
       have n4 := (List.getElem?_eq_some_iff.1 b4).1
       have bF := q6.box (q5.box (q4.box (q3.box (q2.box (q1.box (push_old (cs := rrow x tkx szx rowsx) hb))))))
       have efin : (((((((cl ++ [nT kRule]) ++ [nT x.kind]) ++ [nT kThink]) ++ [dT x.think]) ++ [sT cEq]) ++ tokE x.expr) ++ [sT cSemi]) = pre2 p ++ (p.rules.take (i + 1)).flatMap tokR := by
        rw [est, ← hcl]
        simp only [List.append_assoc, tokR]
        rfl
       have kef := Keep.mk efin
       have kG3 := Keep.mk ((hG.push (rrow x tkx szx rowsx)).trans (q1.trans (q2.trans (q3.trans (q4.trans (q5.trans q6))))))
       have kS3 := Keep.mk S6
       clear hG hS SP q1 q2 q3 q4 q5 q6 S1 S2 S3 S4 S5 S6 efin hcl est hle hac cur hrow lx
       repeat' (first | simp (config := { maxSteps := 4000000 }) (disch := first | exact dZ | fail) only [goS, plainEv, resultsEv, resultListEv, reduceIte, Nat.reduceEqDiff, goT, beq_self_eq_true, goH, goU, rs32, fp28, fp62, prs, rrs, index_list, load_row_agg, stz62, put_push_eq, push_len, *] | (refine dX ?_ ?_ <;> (intro _; try (exfalso; omega))) | (refine dY ?_ ?_ <;> intro _) | fail)
       refine run_draw_but [(3, 6), (4, 6)] (by kernel_rfl) ?_ ?_
       ·intro pr hp
        simp only [List.mem_cons, List.not_mem_nil, or_false] at hp
        rcases hp with rfl | rfl
        ·refine stable_behind (x := .ptr (.box h'.boxes.length) (0 + 2)) (v := .v (.int .i64 x.think)) (by kernel_rfl) rfl rfl rfl (by kernel_rfl) (sameI _) ?_ ?_
         ·simp only [List.take_succ_cons, List.take_zero]
          repeat' (first | simp (config := { maxSteps := 4000000 }) (disch := first | exact dZ | fail) only [goS, plainEv, resultsEv, resultListEv, reduceIte, Nat.reduceEqDiff, goT, beq_self_eq_true, goH, goU, fp62, rrs, *] | (refine dX ?_ ?_ <;> (intro _; try (exfalso; omega))) | (refine dY ?_ ?_ <;> intro _) | fail)
          exact ⟨by trivial, by trivial, by trivial⟩
         ·simp only [List.take_succ_cons, List.take_zero]
          repeat' (first | simp (config := { maxSteps := 4000000 }) (disch := first | exact dZ | fail) only [goS, plainEv, resultsEv, resultListEv, reduceIte, Nat.reduceEqDiff, goT, beq_self_eq_true, goH, goU, fp62, rrs, *] | (refine dX ?_ ?_ <;> (intro _; try (exfalso; omega))) | (refine dY ?_ ?_ <;> intro _) | fail)
          exact ⟨by trivial, by trivial⟩
        ·refine stable_behind (x := .ptr (.box h'.boxes.length) (0 + 2)) (v := .v (.int .i64 x.think)) (by kernel_rfl) rfl rfl rfl (by kernel_rfl) (sameI _) ?_ ?_
         ·simp only [List.take_succ_cons, List.take_zero]
          repeat' (first | simp (config := { maxSteps := 4000000 }) (disch := first | exact dZ | fail) only [goS, plainEv, resultsEv, resultListEv, reduceIte, Nat.reduceEqDiff, goT, beq_self_eq_true, goH, goU, fp62, rrs, *] | (refine dX ?_ ?_ <;> (intro _; try (exfalso; omega))) | (refine dY ?_ ?_ <;> intro _) | fail)
          exact ⟨by trivial, by trivial, by trivial⟩
         ·simp only [List.take_succ_cons, List.take_zero]
          repeat' (first | simp (config := { maxSteps := 4000000 }) (disch := first | exact dZ | fail) only [goS, plainEv, resultsEv, resultListEv, reduceIte, Nat.reduceEqDiff, goT, beq_self_eq_true, goH, goU, fp62, rrs, *] | (refine dX ?_ ?_ <;> (intro _; try (exfalso; omega))) | (refine dY ?_ ?_ <;> intro _) | fail)
          exact ⟨by trivial, by trivial⟩
       repeat' (first | simp (config := { maxSteps := 4000000 }) (disch := first | exact dZ | fail) only [goS, plainEv, resultsEv, resultListEv, reduceIte, Nat.reduceEqDiff, goT, beq_self_eq_true, goH, goU, rs32, fp28, fp62, prs, rrs, load62_3, *] | (refine dX ?_ ?_ <;> (intro _; try (exfalso; omega))) | (refine dY ?_ ?_ <;> intro _) | fail)
       refine ⟨p.rules.length - (i + 1), by omega, i + 1, k6, by omega, rfl, (by first | trivial | (simp; done) | (simp; omega)), ?_, (by first | trivial | (simp; done) | (simp; omega)), (by first | trivial | (simp; done) | (simp; omega)), kG3.out, ?_, by first | exact bF | trivial⟩
       ·(rw [← kef.out]) <;> (try rfl)
       ·rw [← kef.out]; exact kS3.out
      ·have hie : i = p.rules.length := by omega
       have hlt3 : ¬ ((i : Int) < (t.rr.length : Int)) := by rw [hrl]; omega
       rw [hie, List.take_length] at hS g3
       have ee : pre2 p ++ p.rules.flatMap tokR = pre3 p := rfl
       rw [ee] at hS g3
       obtain ⟨k1, h1, c1, q1, S1⟩ := put_x hS (by omega) [99, 104, 97, 110, 103, 101]
       obtain ⟨k2, h2, c2, q2, S2⟩ := mark_x S1 (by simp only [List.length_append, List.length_cons, List.length_nil]; omega) [61]
       obtain ⟨r3, h3, c3, k3, z3, rfl, q3, S3⟩ := puts_expr p.change _ kok.out.expr h.tn _ _ _ _ S2 (by simp only [List.length_append, List.length_cons, List.length_nil]; omega)
       obtain ⟨k4, h4, c4, q4, S4⟩ := mark_x S3 (by simp only [List.length_append, List.length_cons, List.length_nil]; omega) [59]
       have c3 : W.call 89 [.list k2 4 (toks (pre3 p ++ [nT [99, 104, 97, 110, 103, 101]] ++ [sT [61]])), .agg (p5 p t)] h2 = _ := c3
       have b1 := q1.box hb
       have b2 := q2.box b1
       have n1 := (List.getElem?_eq_some_iff.1 b1).1
       have n2 := (List.getElem?_eq_some_iff.1 b2).1
       have efin : (((pre3 p ++ [nT kChange]) ++ [sT cEq]) ++ tokE p.change) ++ [sT cSemi] = tokP p := by
        rw [tokP_pre]
        simp only [List.append_assoc]
        rfl
       rw [← efin]
       have kG3 := Keep.mk (hG.trans (q1.trans (q2.trans (q3.trans q4))))
       have kS3 := Keep.mk S4
       have ks := sameP5 kok.out
       clear hG hS q1 q2 q3 q4 S1 S2 S3 S4 efin ee hie
       repeat' (first | simp (config := { maxSteps := 4000000 }) (disch := first | exact dZ | fail) only [goS, plainEv, resultsEv, resultListEv, reduceIte, Nat.reduceEqDiff, goT, beq_self_eq_true, goH, goU, rs32, fp28, prs, *] | (refine dX ?_ ?_ <;> (intro _; try (exfalso; omega))) | (refine dY ?_ ?_ <;> intro _) | fail)
       refine run_draw_but [(1, 4), (2, 4)] (by kernel_rfl) ?_ ?_
       ·intro pr hp
        simp only [List.mem_cons, List.not_mem_nil, or_false] at hp
        rcases hp with rfl | rfl
        ·refine stable_behind (x := .ptr (.box h.boxes.length) (0 + 4)) (v := .agg (p5 p t)) (by kernel_rfl) rfl rfl rfl (by kernel_rfl) ks ?_ ?_
         ·simp only [List.take_succ_cons, List.take_zero]
          repeat' (first | simp (config := { maxSteps := 4000000 }) (disch := first | exact dZ | fail) only [goS, plainEv, resultsEv, resultListEv, reduceIte, Nat.reduceEqDiff, goT, beq_self_eq_true, goH, goU, fp28, prs, load28_4, *] | (refine dX ?_ ?_ <;> (intro _; try (exfalso; omega))) | (refine dY ?_ ?_ <;> intro _) | fail)
          exact ⟨by trivial, by trivial, by trivial⟩
         ·simp only [List.take_succ_cons, List.take_zero]
          repeat' (first | simp (config := { maxSteps := 4000000 }) (disch := first | exact dZ | fail) only [goS, plainEv, resultsEv, resultListEv, reduceIte, Nat.reduceEqDiff, goT, beq_self_eq_true, goH, goU, fp28, prs, load28_4, *] | (refine dX ?_ ?_ <;> (intro _; try (exfalso; omega))) | (refine dY ?_ ?_ <;> intro _) | fail)
          exact ⟨by trivial, by trivial⟩
        ·refine stable_behind (x := .ptr (.box h.boxes.length) (0 + 4)) (v := .agg (p5 p t)) (by kernel_rfl) rfl rfl rfl (by kernel_rfl) ks ?_ ?_
         ·simp only [List.take_succ_cons, List.take_zero]
          repeat' (first | simp (config := { maxSteps := 4000000 }) (disch := first | exact dZ | fail) only [goS, plainEv, resultsEv, resultListEv, reduceIte, Nat.reduceEqDiff, goT, beq_self_eq_true, goH, goU, fp28, prs, load28_4, *] | (refine dX ?_ ?_ <;> (intro _; try (exfalso; omega))) | (refine dY ?_ ?_ <;> intro _) | fail)
          exact ⟨by trivial, by trivial, by trivial⟩
         ·simp only [List.take_succ_cons, List.take_zero]
          repeat' (first | simp (config := { maxSteps := 4000000 }) (disch := first | exact dZ | fail) only [goS, plainEv, resultsEv, resultListEv, reduceIte, Nat.reduceEqDiff, goT, beq_self_eq_true, goH, goU, fp28, prs, load28_4, *] | (refine dX ?_ ?_ <;> (intro _; try (exfalso; omega))) | (refine dY ?_ ?_ <;> intro _) | fail)
          exact ⟨by trivial, by trivial⟩
       repeat' (first | simp (config := { maxSteps := 4000000 }) (disch := first | exact dZ | fail) only [goS, plainEv, resultsEv, resultListEv, reduceIte, Nat.reduceEqDiff, goT, beq_self_eq_true, goH, goU, rs32, fp28, prs, load28_4, *] | (refine dX ?_ ?_ <;> (intro _; try (exfalso; omega))) | (refine dY ?_ ?_ <;> intro _) | fail)
       exact ⟨_, _, rfl, k4, 4, rfl, kG3.out, kS3.out⟩
     ·refine ⟨0, tok', Nat.zero_le _, rfl, ?_, ?_, ?_, ?_, kG.out, ?_, by first | exact hb | trivial⟩
      ·first | rfl | (simp only [goS, plainEv, resultsEv, resultListEv, reduceIte, Nat.reduceEqDiff, goT, beq_self_eq_true, goH]; done) | (simp only [goS, plainEv, resultsEv, resultListEv, reduceIte, Nat.reduceEqDiff, goT, beq_self_eq_true, goH]; assumption)
      ·first | rfl | ((try simp only [goS, plainEv, resultsEv, resultListEv, reduceIte, Nat.reduceEqDiff, goT, beq_self_eq_true, goH]); first | rfl | assumption)
      ·(try simp only [goS, plainEv, resultsEv, resultListEv, reduceIte, Nat.reduceEqDiff, goT, beq_self_eq_true, goH]); rfl
      ·first | rfl | (simp only [goS, plainEv, resultsEv, resultListEv, reduceIte, Nat.reduceEqDiff, goT, beq_self_eq_true, goH]; done) | (simp only [goS, plainEv, resultsEv, resultListEv, reduceIte, Nat.reduceEqDiff, goT, beq_self_eq_true, goH]; assumption)
      ·exact kS.out
   ·refine ⟨0, tok', Nat.zero_le _, rfl, ?_, ?_, ?_, ?_, kG.out, ?_, by first | exact hb | trivial⟩
    ·first | rfl | (simp only [goS, plainEv, resultsEv, resultListEv, reduceIte, Nat.reduceEqDiff, goT, beq_self_eq_true, goH]; done) | (simp only [goS, plainEv, resultsEv, resultListEv, reduceIte, Nat.reduceEqDiff, goT, beq_self_eq_true, goH]; assumption)
    ·first | rfl | ((try simp only [goS, plainEv, resultsEv, resultListEv, reduceIte, Nat.reduceEqDiff, goT, beq_self_eq_true, goH]); first | rfl | assumption)
    ·(try simp only [goS, plainEv, resultsEv, resultListEv, reduceIte, Nat.reduceEqDiff, goT, beq_self_eq_true, goH]); rfl
    ·first | rfl | (simp only [goS, plainEv, resultsEv, resultListEv, reduceIte, Nat.reduceEqDiff, goT, beq_self_eq_true, goH]; done) | (simp only [goS, plainEv, resultsEv, resultListEv, reduceIte, Nat.reduceEqDiff, goT, beq_self_eq_true, goH]; assumption)
    ·exact kS.out
 ·refine ⟨0, k4, Nat.zero_le _, rfl, ?_, ?_, ?_, ?_, kG.out, ?_, by first | exact b4 | trivial⟩
  ·first | rfl | (simp only [goS, plainEv, resultsEv, resultListEv, reduceIte, Nat.reduceEqDiff, goT, beq_self_eq_true, goH]; done) | (simp only [goS, plainEv, resultsEv, resultListEv, reduceIte, Nat.reduceEqDiff, goT, beq_self_eq_true, goH]; assumption)
  ·first | rfl | ((try simp only [goS, plainEv, resultsEv, resultListEv, reduceIte, Nat.reduceEqDiff, goT, beq_self_eq_true, goH]); first | rfl | assumption)
  ·(try simp only [goS, plainEv, resultsEv, resultListEv, reduceIte, Nat.reduceEqDiff, goT, beq_self_eq_true, goH]); rfl
  ·first | rfl | (simp only [goS, plainEv, resultsEv, resultListEv, reduceIte, Nat.reduceEqDiff, goT, beq_self_eq_true, goH]; done) | (simp only [goS, plainEv, resultsEv, resultListEv, reduceIte, Nat.reduceEqDiff, goT, beq_self_eq_true, goH]; assumption)
  ·exact kS.out
end Go.Proofs.YtmdakolcndpjeaaGreatDoor
end
