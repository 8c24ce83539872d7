/-
 Part of the proof: RB.
-/
import Derived.Test.YtmdakolcndpjeaaGreatDoorRA
import Derived.Test.YtmdakolcndpjeaaGreatDoorSJ
import Derived.Test.YtmdakolcndpjeaaGreatDoorSE
import Derived.Test.YtmdakolcndpjeaaGreatDoorSF
import Derived.Test.YtmdakolcndpjeaaGreatDoorSB
set_option maxHeartbeats 64000000
set_option maxRecDepth 100000
set_option linter.unusedSimpArgs false
set_option linter.unusedVariables false
set_option linter.constructorNameAsVariable false
section
namespace Go.Proofs.YtmdakolcndpjeaaGreatDoor
open Go.AE Go.Lex Go.Pol Go.Syn
def pst (tok : Tok) (sz : Nat) (l : List Tk) (n e : Int) (b : Bool) (a : Int) : List AV := [.list tok sz (toks l), .v (.int .i64 n), .v (.int .i64 e), .v (.bool b), .v (.int .i64 a)]
inductive Ps where
 | good (r : List Tk)
 | bad (a : Int)
def PsRow (tok : Tok) (sz : Nat) (l : List Tk) (e : Int) : Ps → List AV → Prop
 | .good r, row => ∃ n : Nat, n ≤ l.length ∧ r = l.drop n ∧ row = pst tok sz l n e false 0
 | .bad a, row => ∃ n : Nat, n ≤ l.length ∧ row = pst tok sz l n e true a
def runP {α : Type} (P : List Tk → PR α) (e : Int) : Ps → Option α × Ps
 | .bad a => (none, .bad a)
 | .good r => match P r with
  | .ok x q => (some x, .good q)
  | .bad q => (none, .bad (failAt e q))
theorem runP_ok {α : Type} {P : List Tk → PR α} {e : Int} {r q : List Tk} {x : α} (h : P r = .ok x q) : runP P e (.good r) = (some x, .good q) := by simp only [runP, h]
theorem runP_no {α : Type} {P : List Tk → PR α} {e : Int} {r q : List Tk} (h : P r = .bad q) : runP P e (.good r) = (none, .bad (failAt e q)) := by simp only [runP, h]
theorem runP_bind {α β : Type} (P : List Tk → PR α) (f : α → List Tk → PR β) (e : Int) (s : Ps) :
 runP (fun l => (P l).bind f) e s = match (runP P e s).1 with | some x => runP (f x) e (runP P e s).2 | none => (none, (runP P e s).2) := by
 cases s with
 | bad a => rfl
 | good r =>
  cases h : P r with
  | ok x q => rw [runP_ok h]; simp only [runP, h, bind_ok]
  | bad q => rw [runP_no h]; simp only [runP, h]; rfl
theorem runP_none {α : Type} {P : List Tk → PR α} {e : Int} {s : Ps} (h : (runP P e s).1 = none) : ∃ a, (runP P e s).2 = .bad a := by
 cases s with
 | bad a => exact ⟨a, rfl⟩
 | good r =>
  cases hp : P r with
  | ok x q => rw [runP_ok hp] at h; cases h
  | bad q => rw [runP_no hp]; exact ⟨_, rfl⟩
def nxP (s : List UInt8) : Ps → Bool
 | .good r => isT s r
 | .bad _ => false
theorem ag70 : isAggB Tryz.prog 70 = some true := by kernel_rfl
theorem sz70 : sizeB Tryz.prog 70 = some 5 := by kernel_rfl
theorem ag4' : isAggB Tryz.prog 4 = some false := by kernel_rfl
theorem sz4' : sizeB Tryz.prog 4 = some 1 := by kernel_rfl
theorem zc70 : (zeroA Tryz.prog 70).bind AV.cellsO = some (pst .nil 0 [] 0 0 false 0) := by kernel_rfl
theorem fa70_0 (r : Ref) (off : Nat) : fieldAddrEv Tryz.prog 70 (.ptr r off) 0 = some (.ptr r (off + 0)) := by kernel_rfl
theorem fa70_1 (r : Ref) (off : Nat) : fieldAddrEv Tryz.prog 70 (.ptr r off) 1 = some (.ptr r (off + 1)) := by kernel_rfl
theorem fa70_2 (r : Ref) (off : Nat) : fieldAddrEv Tryz.prog 70 (.ptr r off) 2 = some (.ptr r (off + 2)) := by kernel_rfl
theorem fa70_3 (r : Ref) (off : Nat) : fieldAddrEv Tryz.prog 70 (.ptr r off) 3 = some (.ptr r (off + 3)) := by kernel_rfl
theorem fa70_4 (r : Ref) (off : Nat) : fieldAddrEv Tryz.prog 70 (.ptr r off) 4 = some (.ptr r (off + 4)) := by kernel_rfl
theorem fp70 : (∀ (r : Ref) (off : Nat), fieldAddrEv Tryz.prog 70 (.ptr r off) 0 = some (.ptr r (off + 0))) ∧ (∀ (r : Ref) (off : Nat), fieldAddrEv Tryz.prog 70 (.ptr r off) 1 = some (.ptr r (off + 1))) ∧ (∀ (r : Ref) (off : Nat), fieldAddrEv Tryz.prog 70 (.ptr r off) 2 = some (.ptr r (off + 2))) ∧
 (∀ (r : Ref) (off : Nat), fieldAddrEv Tryz.prog 70 (.ptr r off) 3 = some (.ptr r (off + 3))) ∧ (∀ (r : Ref) (off : Nat), fieldAddrEv Tryz.prog 70 (.ptr r off) 4 = some (.ptr r (off + 4))) := ⟨fa70_0, fa70_1, fa70_2, fa70_3, fa70_4⟩
theorem pss : (∀ (tok : Tok) (sz : Nat) (l : List Tk) (n e : Int) (b : Bool) (a : Int), (AV.agg (pst tok sz l n e b a)).cellsO = some (pst tok sz l n e b a)) ∧ (∀ (tok : Tok) (sz : Nat) (l : List Tk) (n e : Int) (b : Bool) (a : Int), ((pst tok sz l n e b a).drop 0).head? = some (.list tok sz (toks l))) ∧
 (∀ (tok : Tok) (sz : Nat) (l : List Tk) (n e : Int) (b : Bool) (a : Int), ((pst tok sz l n e b a).drop 1).head? = some (.v (.int .i64 n))) ∧ (∀ (tok : Tok) (sz : Nat) (l : List Tk) (n e : Int) (b : Bool) (a : Int), ((pst tok sz l n e b a).drop 2).head? = some (.v (.int .i64 e))) ∧
 (∀ (tok : Tok) (sz : Nat) (l : List Tk) (n e : Int) (b : Bool) (a : Int), ((pst tok sz l n e b a).drop 3).head? = some (.v (.bool b))) ∧ (∀ (tok : Tok) (sz : Nat) (l : List Tk) (n e : Int) (b : Bool) (a : Int), ((pst tok sz l n e b a).drop 4).head? = some (.v (.int .i64 a))) ∧
 (∀ (tok : Tok) (sz : Nat) (l : List Tk) (n e : Int) (b : Bool) (a : Int), ((pst tok sz l n e b a).drop 0).take 5 = pst tok sz l n e b a) := ⟨fun _ _ _ _ _ _ _ => rfl, fun _ _ _ _ _ _ _ => rfl, fun _ _ _ _ _ _ _ => rfl, fun _ _ _ _ _ _ _ => rfl, fun _ _ _ _ _ _ _ => rfl, fun _ _ _ _ _ _ _ => rfl, fun _ _ _ _ _ _ _ => rfl⟩
section
variable {h : Heap} {c : Nat} {tok tok' : Tok} {sz sz' : Nat} {l l' : List Tk} {n e a n' e' a' : Int} {b b' : Bool}
theorem ld70 (hb : h.boxes[c]? = some (pst tok sz l n e b a)) : loadEv Tryz.prog (fun _ => none) h 70 (.ptr (.box c) 0) = some (.agg (pst tok sz l n e b a)) := load_agg ag70 sz70 hb (Nat.le_refl 5)
theorem st70 (hb : h.boxes[c]? = some (pst tok sz l n e b a)) : storeEv Tryz.prog h 70 (.ptr (.box c) 0) (.agg (pst tok' sz' l' n' e' b' a')) = some (h.put c (pst tok' sz' l' n' e' b' a')) := store_box (off := 0) (cs := pst tok sz l n e b a) (xs := pst tok' sz' l' n' e' b' a') rfl sz70 hb rfl (Nat.le_refl 5)
theorem st70_1 (hb : h.boxes[c]? = some (pst tok sz l n e b a)) : storeEv Tryz.prog h 3 (.ptr (.box c) 1) (.v (.int .i64 n')) = some (h.put c (pst tok sz l n' e b a)) := store_box (off := 1) (cs := pst tok sz l n e b a) (xs := [.v (.int .i64 n')]) rfl sz3 hb rfl (show 1 + 1 ≤ 5 by omega)
theorem st70_3 (hb : h.boxes[c]? = some (pst tok sz l n e b a)) : storeEv Tryz.prog h 4 (.ptr (.box c) 3) (.v (.bool b')) = some (h.put c (pst tok sz l n e b' a)) := store_box (off := 3) (cs := pst tok sz l n e b a) (xs := [.v (.bool b')]) rfl sz4' hb rfl (show 3 + 1 ≤ 5 by omega)
theorem st70_4 (hb : h.boxes[c]? = some (pst tok sz l n e b a)) : storeEv Tryz.prog h 3 (.ptr (.box c) 4) (.v (.int .i64 a')) = some (h.put c (pst tok sz l n e b a')) := store_box (off := 4) (cs := pst tok sz l n e b a) (xs := [.v (.int .i64 a')]) rfl sz3 hb rfl (show 4 + 1 ≤ 5 by omega)
end
theorem rs99 : Tryz.f99.results.toList = [.cell 2 70] := by kernel_rfl
theorem rs96 : Tryz.f96.results.toList = [.tmp 6] := by kernel_rfl
theorem rs135 : Tryz.f135.results.toList = [.cell 6 70] := by kernel_rfl
theorem rs92 : Tryz.f92.results.toList = [.cell 4 70] := by kernel_rfl
theorem rs94 : Tryz.f94.results.toList = [.cell 4 70] := by kernel_rfl
def failS (e : Int) : Ps → Ps
 | .bad a => .bad a
 | .good r => .bad (failAt e r)
structure Rd0 (tok : Tok) (sz : Nat) (l : List Tk) : Prop where
 size : ∀ i : Nat, i < l.length → sz = 4
 few : l.length ≤ 1000000000
section
variable {tok : Tok} {sz : Nat} {l : List Tk} {e : Int}
theorem rfFail (D : Rd0 tok sz l) {s : Ps} {row : List AV} (hr : PsRow tok sz l e s row) (h : Heap) : ∃ r h', W.call 99 [.agg row] h = some (r, h') ∧ Ext h h' ∧ ∃ row', r = .ret (.agg row') ∧ PsRow tok sz l e (failS e s) row' := by
 have a70 := ag70; have s70 := sz70; have z70 := zc70; have a4 := ag4'; have s4 := sz4'; have a3 := ag3; have s3 := sz3; have u39 := Tryz.underlying39; have a39 := ag39; have a43 := ag43; have s43 := sz43
 have few := D.few
 have kz := Keep.mk D.size
 cases s with
 | bad a =>
  obtain ⟨n, hn, rfl⟩ := hr
  have x0 := Keep.mk ((Ext.push h (pst tok sz l n e true a)).trans (.push _ (pst tok sz l n e true a)))
  refine call_post rfl Tryz.func99 rfl ?_
  repeat' (first | simp (config := { maxSteps := 4000000 }) (disch := first | exact dZ | fail) only [goS, plainEv, resultsEv, resultListEv, reduceIte, Nat.reduceEqDiff, goT, beq_self_eq_true, goH, goU, rs99, fp70, pss, ld70, st70, put_push_eq, push_len, *] | (refine dX ?_ ?_ <;> (intro _; try (exfalso; omega))) | (refine dY ?_ ?_ <;> intro _) | fail)
  exact ⟨_, _, rfl, x0.out, _, rfl, n, hn, rfl⟩
 | good r =>
  obtain ⟨n, hn, hrn, rfl⟩ := hr
  have khr := Keep.mk hrn
  clear hrn
  by_cases hlt : n < l.length
  ·obtain ⟨x, hx⟩ : ∃ t, l[n]? = some t := ⟨_, List.getElem?_eq_getElem hlt⟩
   obtain rfl := kz.out n hlt
   have hlt3 : (n : Int) < ((toks l).length : Int) := by rw [toks_len]; omega
   have hf : failAt e r = x.at_ := by
    rw [khr.out, List.drop_eq_getElem_cons hlt]
    obtain ⟨hj, rfl⟩ := List.getElem?_eq_some_iff.1 hx
    rfl
   have x0 := Keep.mk ((Ext.push h (pst tok 4 l n e true x.at_)).trans (.push _ (pst tok 4 l n e true x.at_)))
   have khf := Keep.mk hf
   clear hf
   refine call_post rfl Tryz.func99 rfl ?_
   repeat' (first | simp (config := { maxSteps := 4000000 }) (disch := first | exact dZ | fail) only [goS, plainEv, resultsEv, resultListEv, reduceIte, Nat.reduceEqDiff, goT, beq_self_eq_true, goH, goU, rs99, fp70, pss, ld70, st70, st70_3, st70_4, put_push_eq, put_push_ne, push_len, toks_len, toks_get, index_list, load_row, fa43e_3, drop3, *] | (refine dX ?_ ?_ <;> (intro _; try (exfalso; omega))) | (refine dY ?_ ?_ <;> intro _) | fail)
   exact ⟨_, _, rfl, x0.out, _, rfl, n, hn, by rw [khf.out]⟩
  ·have hf : failAt e r = e := by rw [khr.out, List.drop_eq_nil_of_le (by omega)]; rfl
   have x0 := Keep.mk ((Ext.push h (pst tok sz l n e true e)).trans (.push _ (pst tok sz l n e true e)))
   have khf := Keep.mk hf
   clear hf
   refine call_post rfl Tryz.func99 rfl ?_
   repeat' (first | simp (config := { maxSteps := 4000000 }) (disch := first | exact dZ | fail) only [goS, plainEv, resultsEv, resultListEv, reduceIte, Nat.reduceEqDiff, goT, beq_self_eq_true, goH, goU, rs99, fp70, pss, ld70, st70, st70_3, st70_4, put_push_eq, put_push_ne, push_len, toks_len, *] | (refine dX ?_ ?_ <;> (intro _; try (exfalso; omega))) | (refine dY ?_ ?_ <;> intro _) | fail)
   exact ⟨_, _, rfl, x0.out, _, rfl, n, hn, by rw [khf.out]⟩
theorem kind_word {x : List UInt8} (hx : x.length ≠ 1) (t : Tk) (hv : validB t = true) : (decide (t.kind = 1) && decide (t.text = x)) = (!decide (t.kind = 2) && decide (t.text = x)) := by
 unfold validB at hv
 by_cases h1 : t.kind = 1
 ·simp [h1]
 ·rw [if_neg h1] at hv
  by_cases h2 : t.kind = 2
  ·simp [h2]
  ·rw [if_neg h2] at hv
   by_cases h3 : t.kind = 3
   ·rw [if_pos h3] at hv
    simp only [Bool.and_eq_true, decide_eq_true_eq] at hv
    have : ¬ t.text = x := fun q => hx (by rw [← q]; exact hv.1.1)
    simp [this]
   ·rw [if_neg h3] at hv; cases hv
theorem kind_sign {x : List UInt8} (hx : letter (x.getD 0 0) = false) (t : Tk) (hv : validB t = true) : (decide (t.kind = 3) && decide (t.text = x)) = (!decide (t.kind = 2) && decide (t.text = x)) := by
 unfold validB at hv
 by_cases h1 : t.kind = 1
 ·rw [if_pos h1] at hv
  have : ¬ t.text = x := fun q => by
   unfold nameB at hv
   simp only [Bool.and_eq_true, decide_eq_true_eq] at hv
   rw [q, hx] at hv
   exact absurd hv.1.1.2 (by decide)
  simp [this]
 ·rw [if_neg h1] at hv
  by_cases h2 : t.kind = 2
  ·simp [h2]
  ·rw [if_neg h2] at hv
   by_cases h3 : t.kind = 3
   ·simp [h3]
   ·rw [if_neg h3] at hv; cases hv
theorem isT_at {x : List UInt8} {n : Nat} {t : Tk} (ht : l[n]? = some t) : isT x (l.drop n) = (!decide (t.kind = 2) && decide (t.text = x)) := by
 obtain ⟨hj, rfl⟩ := List.getElem?_eq_some_iff.1 ht
 rw [List.drop_eq_getElem_cons hj, isT_cons]
theorem rfNext (D : Rd0 tok sz l) (hv : Valid l) {s : Ps} {row : List AV} (hr : PsRow tok sz l e s row) (k : Int) (x : List UInt8) (hk : ∀ t, validB t = true → (decide (t.kind = k) && decide (t.text = x)) = (!decide (t.kind = 2) && decide (t.text = x))) (h : Heap) :
 Says W 96 [.agg row, .v (.int .i64 k), .v (.string (bs x))] h (.ret (.v (.bool (nxP x s)))) := by
 have a70 := ag70; have s70 := sz70; have a4 := ag4'; have a3 := ag3; have a9 := ag9; have u39 := Tryz.underlying39; have a39 := ag39; have s43 := sz43
 have few := D.few
 have kz := Keep.mk D.size
 cases s with
 | bad a =>
  obtain ⟨n, hn, rfl⟩ := hr
  have x0 := Keep.mk (Ext.push h (pst tok sz l n e true a))
  refine call_ex rfl Tryz.func96 rfl ?_
  repeat' (first | simp (config := { maxSteps := 4000000 }) (disch := first | exact dZ | fail) only [goS, plainEv, resultsEv, resultListEv, reduceIte, Nat.reduceEqDiff, goT, beq_self_eq_true, goH, goU, rs96, fp70, pss, ld70, *] | (refine dX ?_ ?_ <;> (intro _; try (exfalso; omega))) | (refine dY ?_ ?_ <;> intro _) | fail)
  exact ⟨_, rfl, x0.out⟩
 | good r =>
  obtain ⟨n, hn, hrn, rfl⟩ := hr
  have x0 := Keep.mk (Ext.push h (pst tok sz l n e false 0))
  by_cases hlt : n < l.length
  ·obtain ⟨t, ht⟩ : ∃ t, l[n]? = some t := ⟨_, List.getElem?_eq_getElem hlt⟩
   obtain rfl := kz.out n hlt
   have hlt3 : (n : Int) < ((toks l).length : Int) := by rw [toks_len]; omega
   have hq : nxP x (.good r) = (decide (t.kind = k) && decide (t.text = x)) := by
    rw [hk t (hv t (List.mem_of_getElem? ht)), ← isT_at ht, ← hrn]; rfl
   rw [hq]
   clear hrn hq hk hv
   refine call_ex rfl Tryz.func96 rfl ?_
   by_cases q1 : t.kind = k
   ·by_cases q2 : t.text = x
    ·rw [show (decide (t.kind = k) && decide (t.text = x)) = true by simp [q1, q2]]
     repeat' (first | simp (config := { maxSteps := 4000000 }) (disch := first | exact dZ | fail) only [goS, plainEv, resultsEv, resultListEv, reduceIte, Nat.reduceEqDiff, goT, beq_self_eq_true, goH, goU, rs96, fp70, pss, ld70, toks_len, toks_get, index_list, load_row, fa43e_0, fa43e_1, drop0, drop1, row_head, *] | (refine dX ?_ ?_ <;> (intro _; try (exfalso; omega))) | (refine dY ?_ ?_ <;> intro _) | fail)
     all_goals exact ⟨_, rfl, x0.out⟩
    ·rw [show (decide (t.kind = k) && decide (t.text = x)) = false by simp [q2]]
     repeat' (first | simp (config := { maxSteps := 4000000 }) (disch := first | exact dZ | fail) only [goS, plainEv, resultsEv, resultListEv, reduceIte, Nat.reduceEqDiff, goT, beq_self_eq_true, goH, goU, rs96, fp70, pss, ld70, toks_len, toks_get, index_list, load_row, fa43e_0, fa43e_1, drop0, drop1, row_head, *] | (refine dX ?_ ?_ <;> (intro _; try (exfalso; omega))) | (refine dY ?_ ?_ <;> intro _) | fail)
     all_goals exact ⟨_, rfl, x0.out⟩
   ·rw [show (decide (t.kind = k) && decide (t.text = x)) = false by simp [q1]]
    repeat' (first | simp (config := { maxSteps := 4000000 }) (disch := first | exact dZ | fail) only [goS, plainEv, resultsEv, resultListEv, reduceIte, Nat.reduceEqDiff, goT, beq_self_eq_true, goH, goU, rs96, fp70, pss, ld70, toks_len, toks_get, index_list, load_row, fa43e_0, fa43e_1, drop0, drop1, row_head, *] | (refine dX ?_ ?_ <;> (intro _; try (exfalso; omega))) | (refine dY ?_ ?_ <;> intro _) | fail)
    all_goals exact ⟨_, rfl, x0.out⟩
  ·have hq : nxP x (.good r) = false := by
    show isT x r = false
    rw [hrn, List.drop_eq_nil_of_le (by omega)]; rfl
   rw [hq]
   clear hrn hq hk hv
   refine call_ex rfl Tryz.func96 rfl ?_
   repeat' (first | simp (config := { maxSteps := 4000000 }) (disch := first | exact dZ | fail) only [goS, plainEv, resultsEv, resultListEv, reduceIte, Nat.reduceEqDiff, goT, beq_self_eq_true, goH, goU, rs96, fp70, pss, ld70, toks_len, *] | (refine dX ?_ ?_ <;> (intro _; try (exfalso; omega))) | (refine dY ?_ ?_ <;> intro _) | fail)
   exact ⟨_, rfl, x0.out⟩
theorem nx_run {x : List UInt8} {s : Ps} : (nxP x s = false → (runP (wantT x) e s) = (none, failS e s)) ∧ (nxP x s = true → ∃ r, s = .good r ∧ isT x r = true ∧ runP (wantT x) e s = (some (), .good r.tail)) := by
 cases s with
 | bad a => exact ⟨fun _ => rfl, fun q => by cases q⟩
 | good r =>
  refine ⟨fun q => ?_, fun q => ⟨r, rfl, q, ?_⟩⟩
  ·have q : isT x r = false := q
   rw [runP_no (show wantT x r = .bad r by unfold wantT; rw [q]; rfl)]; rfl
  ·have q : isT x r = true := q
   exact runP_ok (by unfold wantT; rw [if_pos q])
theorem isT_lt {x : List UInt8} {n : Nat} (h : isT x (l.drop n) = true) : n < l.length := by
 rcases Nat.lt_or_ge n l.length with q | q
 ·exact q
 ·rw [List.drop_eq_nil_of_le q] at h; cases h
def Steps0 (g : FuncId) (args : List AV) (tok : Tok) (sz : Nat) (l : List Tk) (e : Int) (h : Heap) (s : Ps) : Prop := ∃ r h', W.call g args h = some (r, h') ∧ Ext h h' ∧ ∃ row', r = .ret (.agg row') ∧ PsRow tok sz l e s row'
theorem rfExpect (D : Rd0 tok sz l) (hv : Valid l) {s : Ps} {row : List AV} (hr : PsRow tok sz l e s row) (k : Int) (x : List UInt8) (hk : ∀ t, validB t = true → (decide (t.kind = k) && decide (t.text = x)) = (!decide (t.kind = 2) && decide (t.text = x))) (h : Heap) :
 Steps0 135 [.agg row, .v (.int .i64 k), .v (.string (bs x))] tok sz l e h (runP (wantT x) e s).2 := by
 have a70 := ag70; have s70 := sz70; have z70 := zc70; have a3 := ag3; have s3 := sz3
 have few := D.few
 have hrow : ∃ n b a, row = pst tok sz l n e b a := by
  cases s with
  | bad a => obtain ⟨n, hn, rfl⟩ := hr; exact ⟨n, _, _, rfl⟩
  | good r => obtain ⟨n, hn, -, rfl⟩ := hr; exact ⟨n, _, _, rfl⟩
 obtain ⟨n0, b0, a0, hrow⟩ := hrow
 obtain ⟨h2, c2, x2⟩ := rfNext D hv hr k x hk ((h.push row).push (pst .nil 0 [] 0 0 false 0))
 have q1 := x2.box h.boxes.length row (push_old (push_last h row))
 have q2 := x2.box (h.boxes.length + 1) (pst .nil 0 [] 0 0 false 0) (by have := push_last (h.push row) (pst .nil 0 [] 0 0 false 0); rw [push_len] at this; exact this)
 have y2 := ((Ext.push h row).trans (.push _ (pst .nil 0 [] 0 0 false 0))).trans x2
 unfold Steps0
 cases hn : nxP x s with
 | false =>
  rw [hn] at c2
  rw [nx_run.1 hn]
  obtain ⟨r3, h3, c3, x3, row3, rfl, p3⟩ := rfFail D hr h2
  have hrow3 : ∃ n b a, row3 = pst tok sz l n e b a := by
   generalize failS e s = s3 at p3
   cases s3 with
   | bad a => obtain ⟨n, -, rfl⟩ := p3; exact ⟨n, _, _, rfl⟩
   | good r => obtain ⟨n, -, -, rfl⟩ := p3; exact ⟨n, _, _, rfl⟩
  obtain ⟨n3, b3, a3', rfl⟩ := hrow3
  have r2 := x3.box _ _ q2
  have m2 := (List.getElem?_eq_some_iff.1 r2).1
  have kx := Keep.mk ((y2.trans x3).put_new (b := h.boxes.length + 1) (by omega) (pst tok sz l n3 e b3 a3'))
  have kp := Keep.mk p3
  subst hrow
  clear hr x2 x3 y2 p3 hk hv
  refine call_post rfl Tryz.func135 rfl ?_
  repeat' (first | simp (config := { maxSteps := 4000000 }) (disch := first | exact dZ | fail) only [goS, plainEv, resultsEv, resultListEv, reduceIte, Nat.reduceEqDiff, goT, beq_self_eq_true, goH, goU, rs135, fp70, pss, ld70, st70, push_len, *] | (refine dX ?_ ?_ <;> (intro _; try (exfalso; omega))) | (refine dY ?_ ?_ <;> intro _) | fail)
  exact ⟨_, _, rfl, kx.out, _, rfl, kp.out⟩
 | true =>
  rw [hn] at c2
  obtain ⟨r, rfl, hi, he⟩ := (nx_run (e := e)).2 hn
  rw [he]
  obtain ⟨n, hle, hrn, rfl⟩ := hr
  have hlt : n < l.length := isT_lt (by rw [← hrn]; exact hi)
  have m1 := (List.getElem?_eq_some_iff.1 q1).1
  have m2 := (List.getElem?_eq_some_iff.1 q2).1
  have kx := Keep.mk ((y2.put_new (b := h.boxes.length) (Nat.le_refl _) (pst tok sz l ((n : Int) + 1) e false 0)).put_new (b := h.boxes.length + 1) (by omega) (pst tok sz l ((n : Int) + 1) e false 0))
  have krn := Keep.mk hrn
  clear x2 y2 hk hv hrow hrn hi he
  refine call_post rfl Tryz.func135 rfl ?_
  repeat' (first | simp (config := { maxSteps := 4000000 }) (disch := first | exact dZ | fail) only [goS, plainEv, resultsEv, resultListEv, reduceIte, Nat.reduceEqDiff, goT, beq_self_eq_true, goH, goU, rs135, fp70, pss, ld70, st70, st70_1, push_len, *] | (refine dX ?_ ?_ <;> (intro _; try (exfalso; omega))) | (refine dY ?_ ?_ <;> intro _) | fail)
  refine ⟨_, _, rfl, kx.out, _, rfl, n + 1, hlt, ?_, ?_⟩
  ·rw [krn.out, List.tail_drop]
  ·rfl
end
end Go.Proofs.YtmdakolcndpjeaaGreatDoor
end

section
namespace Go.Proofs.YtmdakolcndpjeaaGreatDoor
open Go.AE Go.Lex Go.Pol Go.Syn
theorem rs134 : Tryz.f134.results.toList = [.tmp 2] := by kernel_rfl
theorem rs91 : Tryz.f91.results.toList = [.tmp 2, .cell 3 70] := by kernel_rfl
theorem rs136 : Tryz.f136.results.toList = [.tmp 2, .cell 3 70] := by kernel_rfl
theorem rs93 : Tryz.f93.results.toList = [.tmp 2, .cell 3 70] := by kernel_rfl
section
variable {tok : Tok} {sz : Nat} {l : List Tk} {e : Int}
theorem PsRow.some_row {s : Ps} {row : List AV} (h : PsRow tok sz l e s row) : ∃ n b a, row = pst tok sz l n e b a := by
 cases s with
 | bad a => obtain ⟨n, -, rfl⟩ := h; exact ⟨n, _, _, rfl⟩
 | good r => obtain ⟨n, -, -, rfl⟩ := h; exact ⟨n, _, _, rfl⟩
theorem rfWord (D : Rd0 tok sz l) (hv : Valid l) {s : Ps} {row : List AV} (hr : PsRow tok sz l e s row) (x : List UInt8) (hx : x.length ≠ 1) (h : Heap) : Steps0 92 [.agg row, .v (.string (bs x))] tok sz l e h (runP (wantT x) e s).2 := by
 have a70 := ag70; have s70 := sz70; have z70 := zc70
 obtain ⟨r2, h2, c2, x2, row2, rfl, p2⟩ := rfExpect D hv hr 1 x (kind_word hx) ((h.push row).push (pst .nil 0 [] 0 0 false 0))
 have q2 := x2.box (h.boxes.length + 1) (pst .nil 0 [] 0 0 false 0) (by have := push_last (h.push row) (pst .nil 0 [] 0 0 false 0); rw [push_len] at this; exact this)
 have m2 := (List.getElem?_eq_some_iff.1 q2).1
 have kx := Keep.mk ((((Ext.push h row).trans (.push _ (pst .nil 0 [] 0 0 false 0))).trans x2).put_new (b := h.boxes.length + 1) (by omega) row2)
 have kp := Keep.mk p2
 obtain ⟨n0, b0, a0, rfl⟩ := hr.some_row
 obtain ⟨n2, b2, a2, rfl⟩ := p2.some_row
 unfold Steps0
 clear hr x2 p2 hv
 refine call_post rfl Tryz.func92 rfl ?_
 repeat' (first | simp (config := { maxSteps := 4000000 }) (disch := first | exact dZ | fail) only [goS, plainEv, resultsEv, resultListEv, reduceIte, Nat.reduceEqDiff, goT, beq_self_eq_true, goH, goU, rs92, pss, ld70, st70, push_len, *] | (refine dX ?_ ?_ <;> (intro _; try (exfalso; omega))) | (refine dY ?_ ?_ <;> intro _) | fail)
 exact ⟨_, _, rfl, kx.out, _, rfl, kp.out⟩
theorem rfSign (D : Rd0 tok sz l) (hv : Valid l) {s : Ps} {row : List AV} (hr : PsRow tok sz l e s row) (x : List UInt8) (hx : letter (x.getD 0 0) = false) (h : Heap) : Steps0 94 [.agg row, .v (.string (bs x))] tok sz l e h (runP (wantT x) e s).2 := by
 have a70 := ag70; have s70 := sz70; have z70 := zc70
 obtain ⟨r2, h2, c2, x2, row2, rfl, p2⟩ := rfExpect D hv hr 3 x (kind_sign hx) ((h.push row).push (pst .nil 0 [] 0 0 false 0))
 have q2 := x2.box (h.boxes.length + 1) (pst .nil 0 [] 0 0 false 0) (by have := push_last (h.push row) (pst .nil 0 [] 0 0 false 0); rw [push_len] at this; exact this)
 have m2 := (List.getElem?_eq_some_iff.1 q2).1
 have kx := Keep.mk ((((Ext.push h row).trans (.push _ (pst .nil 0 [] 0 0 false 0))).trans x2).put_new (b := h.boxes.length + 1) (by omega) row2)
 have kp := Keep.mk p2
 obtain ⟨n0, b0, a0, rfl⟩ := hr.some_row
 obtain ⟨n2, b2, a2, rfl⟩ := p2.some_row
 unfold Steps0
 clear hr x2 p2 hv hx
 refine call_post rfl Tryz.func94 rfl ?_
 repeat' (first | simp (config := { maxSteps := 4000000 }) (disch := first | exact dZ | fail) only [goS, plainEv, resultsEv, resultListEv, reduceIte, Nat.reduceEqDiff, goT, beq_self_eq_true, goH, goU, rs94, pss, ld70, st70, push_len, *] | (refine dX ?_ ?_ <;> (intro _; try (exfalso; omega))) | (refine dY ?_ ?_ <;> intro _) | fail)
 exact ⟨_, _, rfl, kx.out, _, rfl, kp.out⟩
end
theorem rfReserved (s : List UInt8) (h : Heap) : W.call 134 [.v (.string (bs s))] h = some (.ret (.v (.bool (words.contains s))), h) := by
 by_cases hin : s ∈ words
 ·rw [show words.contains s = true by simpa using hin]
  refine call_of_run rfl Tryz.func134 rfl ?_
  simp only [words, kPolicy, kMode, kOld, kNew, kBoth, kEither, kOffice, kKind, kRule, kThink, kChange, kSome, kWeight, kOf, kUpto, kElse, List.mem_cons, List.not_mem_nil, or_false] at hin
  rcases hin with rfl | rfl | rfl | rfl | rfl | rfl | rfl | rfl | rfl | rfl | rfl | rfl | rfl | rfl | rfl | rfl
  all_goals
   repeat' (first | simp (config := { maxSteps := 4000000 }) (disch := first | exact dZ | fail) only [goS, plainEv, resultsEv, resultListEv, reduceIte, Nat.reduceEqDiff, goT, beq_self_eq_true, goH, goU, rs134, *] | (refine dX ?_ ?_ <;> (intro _; try (exfalso; omega))) | (refine dY ?_ ?_ <;> intro _) | fail)
 ·rw [show words.contains s = false by simpa using hin]
  refine call_of_run rfl Tryz.func134 rfl ?_
  simp only [words, kPolicy, kMode, kOld, kNew, kBoth, kEither, kOffice, kKind, kRule, kThink, kChange, kSome, kWeight, kOf, kUpto, kElse, List.mem_cons, List.not_mem_nil, or_false, not_or] at hin
  obtain ⟨q1, q2, q3, q4, q5, q6, q7, q8, q9, q10, q11, q12, q13, q14, q15, q16⟩ := hin
  repeat' (first | simp (config := { maxSteps := 4000000 }) (disch := first | exact dZ | fail) only [goS, plainEv, resultsEv, resultListEv, reduceIte, Nat.reduceEqDiff, goT, beq_self_eq_true, goH, goU, rs134, *] | (refine dX ?_ ?_ <;> (intro _; try (exfalso; omega))) | (refine dY ?_ ?_ <;> intro _) | fail)
end Go.Proofs.YtmdakolcndpjeaaGreatDoor
end

section
namespace Go.Proofs.YtmdakolcndpjeaaGreatDoor
open Go.AE Go.Lex Go.Pol Go.Syn
def Steps1 {α : Type} (enc : α → AV → Prop) (g : FuncId) (args : List AV) (tok : Tok) (sz : Nat) (l : List Tk) (e : Int) (h : Heap) (o : Option α × Ps) : Prop :=
 ∃ r h', W.call g args h = some (r, h') ∧ Ext h h' ∧ ∃ v row' x, r = .ret (.tuple [v, .agg row']) ∧ PsRow tok sz l e o.2 row' ∧ enc x v ∧ ∀ y, o.1 = some y → x = y
def encStr (s : List UInt8) (v : AV) : Prop := v = .v (.string (bs s))
def encInt (n : Int) (v : AV) : Prop := v = .v (.int .i64 n)
section
variable {tok : Tok} {sz : Nat} {l : List Tk} {e : Int}
theorem nameP_at {n : Nat} {t : Tk} (ht : l[n]? = some t) : nameP (l.drop n) = if nameOk t = true then .ok t.text (l.drop (n + 1)) else .bad (l.drop n) := by
 obtain ⟨hj, rfl⟩ := List.getElem?_eq_some_iff.1 ht
 rw [List.drop_eq_getElem_cons hj]
 rfl
theorem numP_at {n : Nat} {t : Tk} (ht : l[n]? = some t) : numP (l.drop n) = if t.kind = 2 then .ok t.n (l.drop (n + 1)) else .bad (l.drop n) := by
 obtain ⟨hj, rfl⟩ := List.getElem?_eq_some_iff.1 ht
 rw [List.drop_eq_getElem_cons hj]
 rfl
theorem rfName (D : Rd0 tok sz l) {s : Ps} {row : List AV} (hr : PsRow tok sz l e s row) (h : Heap) : Steps1 encStr 91 [.agg row] tok sz l e h (runP nameP e s) := by
 have a70 := ag70; have s70 := sz70; have z70 := zc70; have a4 := ag4'; have s4 := sz4'; have a3 := ag3; have s3 := sz3; have a9 := ag9; have u39 := Tryz.underlying39; have a39 := ag39; have s43 := sz43
 have few := D.few
 have kz := Keep.mk D.size
 obtain ⟨r3, h3, c3, x3, row3, rfl, p3⟩ := rfFail D hr ((h.push row).push (pst .nil 0 [] 0 0 false 0))
 have q3 := x3.box (h.boxes.length + 1) (pst .nil 0 [] 0 0 false 0) (by have := push_last (h.push row) (pst .nil 0 [] 0 0 false 0); rw [push_len] at this; exact this)
 have m3 := (List.getElem?_eq_some_iff.1 q3).1
 have kx := Keep.mk ((((Ext.push h row).trans (.push _ (pst .nil 0 [] 0 0 false 0))).trans x3).put_new (b := h.boxes.length + 1) (by omega) row3)
 have kp := Keep.mk p3
 obtain ⟨n3, b3, a3', hrow3⟩ := p3.some_row
 unfold Steps1
 cases s with
 | bad a =>
  obtain ⟨n, hn, rfl⟩ := hr
  subst hrow3
  clear x3 p3
  refine call_post rfl Tryz.func91 rfl ?_
  repeat' (first | simp (config := { maxSteps := 4000000 }) (disch := first | exact dZ | fail) only [goS, plainEv, resultsEv, resultListEv, reduceIte, Nat.reduceEqDiff, goT, beq_self_eq_true, goH, goU, rs91, fp70, pss, ld70, st70, push_len, *] | (refine dX ?_ ?_ <;> (intro _; try (exfalso; omega))) | (refine dY ?_ ?_ <;> intro _) | fail)
  exact ⟨_, _, rfl, kx.out, _, _, [], rfl, kp.out, rfl, fun y hy => by cases hy⟩
 | good r =>
  obtain ⟨n, hn, hrn, rfl⟩ := hr
  by_cases hlt : n < l.length
  ·obtain ⟨t, ht⟩ : ∃ t, l[n]? = some t := ⟨_, List.getElem?_eq_getElem hlt⟩
   obtain rfl := kz.out n hlt
   have hlt3 : (n : Int) < ((toks l).length : Int) := by rw [toks_len]; omega
   have hP : nameP r = if nameOk t = true then .ok t.text (l.drop (n + 1)) else .bad (l.drop n) := by rw [hrn]; exact nameP_at ht
   by_cases h1 : t.kind = 1
   ·have cr := fun h => rfReserved t.text h
    cases hw : words.contains t.text with
    | true =>
     rw [hw] at cr
     have hno : nameOk t = false := by unfold nameOk; rw [hw]; simp
     rw [hno] at hP
     simp only [Bool.false_eq_true, if_false] at hP
     have he : runP nameP e (.good r) = (none, failS e (.good r)) := by rw [runP_no hP, ← hrn]; rfl
     rw [he]
     subst hrow3
     clear x3 p3 hP he hw hno hrn
     refine call_post rfl Tryz.func91 rfl ?_
     repeat' (first | simp (config := { maxSteps := 4000000 }) (disch := first | exact dZ | fail) only [goS, plainEv, resultsEv, resultListEv, reduceIte, Nat.reduceEqDiff, goT, beq_self_eq_true, goH, goU, rs91, fp70, pss, ld70, st70, push_len, toks_len, toks_get, index_list, load_row, fa43e_0, fa43e_1, drop0, drop1, row_head, *] | (refine dX ?_ ?_ <;> (intro _; try (exfalso; omega))) | (refine dY ?_ ?_ <;> intro _) | fail)
     exact ⟨_, _, rfl, kx.out, _, _, [], rfl, kp.out, rfl, fun y hy => by cases hy⟩
    | false =>
     rw [hw] at cr
     have hok : nameOk t = true := by unfold nameOk; rw [hw]; simp [h1]
     rw [hok] at hP
     simp only [if_true] at hP
     rw [runP_ok hP]
     have x0 := Keep.mk ((Ext.push h (pst tok 4 l ((n : Int) + 1) e false 0)).trans (.push _ (pst tok 4 l ((n : Int) + 1) e false 0)))
     clear x3 p3 hP hw hok hrn kx kp c3 q3 m3 hrow3
     refine call_post rfl Tryz.func91 rfl ?_
     repeat' (first | simp (config := { maxSteps := 4000000 }) (disch := first | exact dZ | fail) only [goS, plainEv, resultsEv, resultListEv, reduceIte, Nat.reduceEqDiff, goT, beq_self_eq_true, goH, goU, rs91, fp70, pss, ld70, st70, st70_1, put_push_eq, put_push_ne, push_len, toks_len, toks_get, index_list, load_row, fa43e_0, fa43e_1, drop0, drop1, row_head, *] | ((first | refine G_d ?_ ?_ | refine G_n ?_ ?_ | refine B_d ?_ ?_ | refine B_n ?_ ?_) <;> (intro _; try (exfalso; omega))) | refine run_draw (by kernel_rfl) ?_ | ((first | refine G_m ?_ ?_ | refine B_m ?_ ?_ | refine G_b ?_ ?_ | refine B_b ?_ ?_) <;> intro _))
     exact ⟨_, _, rfl, x0.out, _, _, t.text, rfl, ⟨n + 1, hlt, rfl, rfl⟩, rfl, fun y hy => by injection hy⟩
   ·have hno : nameOk t = false := by unfold nameOk; simp [h1]
    rw [hno] at hP
    simp only [Bool.false_eq_true, if_false] at hP
    have he : runP nameP e (.good r) = (none, failS e (.good r)) := by rw [runP_no hP, ← hrn]; rfl
    rw [he]
    subst hrow3
    clear x3 p3 hP he hno hrn
    refine call_post rfl Tryz.func91 rfl ?_
    repeat' (first | simp (config := { maxSteps := 4000000 }) (disch := first | exact dZ | fail) only [goS, plainEv, resultsEv, resultListEv, reduceIte, Nat.reduceEqDiff, goT, beq_self_eq_true, goH, goU, rs91, fp70, pss, ld70, st70, push_len, toks_len, toks_get, index_list, load_row, fa43e_0, fa43e_1, drop0, drop1, row_head, *] | (refine dX ?_ ?_ <;> (intro _; try (exfalso; omega))) | (refine dY ?_ ?_ <;> intro _) | fail)
    exact ⟨_, _, rfl, kx.out, _, _, [], rfl, kp.out, rfl, fun y hy => by cases hy⟩
  ·have hP : nameP r = .bad r := by rw [hrn, List.drop_eq_nil_of_le (by omega)]; rfl
   have he : runP nameP e (.good r) = (none, failS e (.good r)) := by rw [runP_no hP]; rfl
   rw [he]
   subst hrow3
   clear x3 p3 hP he hrn
   refine call_post rfl Tryz.func91 rfl ?_
   repeat' (first | simp (config := { maxSteps := 4000000 }) (disch := first | exact dZ | fail) only [goS, plainEv, resultsEv, resultListEv, reduceIte, Nat.reduceEqDiff, goT, beq_self_eq_true, goH, goU, rs91, fp70, pss, ld70, st70, push_len, toks_len, *] | (refine dX ?_ ?_ <;> (intro _; try (exfalso; omega))) | (refine dY ?_ ?_ <;> intro _) | fail)
   exact ⟨_, _, rfl, kx.out, _, _, [], rfl, kp.out, rfl, fun y hy => by cases hy⟩
theorem rfNumber (D : Rd0 tok sz l) {s : Ps} {row : List AV} (hr : PsRow tok sz l e s row) (h : Heap) : Steps1 encInt 136 [.agg row] tok sz l e h (runP numP e s) := by
 have a70 := ag70; have s70 := sz70; have z70 := zc70; have a4 := ag4'; have s4 := sz4'; have a3 := ag3; have s3 := sz3; have a9 := ag9; have u39 := Tryz.underlying39; have a39 := ag39; have s43 := sz43
 have few := D.few
 have kz := Keep.mk D.size
 obtain ⟨r3, h3, c3, x3, row3, rfl, p3⟩ := rfFail D hr ((h.push row).push (pst .nil 0 [] 0 0 false 0))
 have q3 := x3.box (h.boxes.length + 1) (pst .nil 0 [] 0 0 false 0) (by have := push_last (h.push row) (pst .nil 0 [] 0 0 false 0); rw [push_len] at this; exact this)
 have m3 := (List.getElem?_eq_some_iff.1 q3).1
 have kx := Keep.mk ((((Ext.push h row).trans (.push _ (pst .nil 0 [] 0 0 false 0))).trans x3).put_new (b := h.boxes.length + 1) (by omega) row3)
 have kp := Keep.mk p3
 obtain ⟨n3, b3, a3', hrow3⟩ := p3.some_row
 unfold Steps1
 cases s with
 | bad a =>
  obtain ⟨n, hn, rfl⟩ := hr
  subst hrow3
  clear x3 p3
  refine call_post rfl Tryz.func136 rfl ?_
  repeat' (first | simp (config := { maxSteps := 4000000 }) (disch := first | exact dZ | fail) only [goS, plainEv, resultsEv, resultListEv, reduceIte, Nat.reduceEqDiff, goT, beq_self_eq_true, goH, goU, rs136, fp70, pss, ld70, st70, push_len, *] | (refine dX ?_ ?_ <;> (intro _; try (exfalso; omega))) | (refine dY ?_ ?_ <;> intro _) | fail)
  exact ⟨_, _, rfl, kx.out, _, _, 0, rfl, kp.out, rfl, fun y hy => by cases hy⟩
 | good r =>
  obtain ⟨n, hn, hrn, rfl⟩ := hr
  by_cases hlt : n < l.length
  ·obtain ⟨t, ht⟩ : ∃ t, l[n]? = some t := ⟨_, List.getElem?_eq_getElem hlt⟩
   obtain rfl := kz.out n hlt
   have hlt3 : (n : Int) < ((toks l).length : Int) := by rw [toks_len]; omega
   have hP : numP r = if t.kind = 2 then .ok t.n (l.drop (n + 1)) else .bad (l.drop n) := by rw [hrn]; exact numP_at ht
   by_cases h1 : t.kind = 2
   ·rw [if_pos h1] at hP
    rw [runP_ok hP]
    have x0 := Keep.mk ((Ext.push h (pst tok 4 l ((n : Int) + 1) e false 0)).trans (.push _ (pst tok 4 l ((n : Int) + 1) e false 0)))
    clear x3 p3 hP hrn kx kp c3 q3 m3 hrow3
    refine call_post rfl Tryz.func136 rfl ?_
    repeat' (first | simp (config := { maxSteps := 4000000 }) (disch := first | exact dZ | fail) only [goS, plainEv, resultsEv, resultListEv, reduceIte, Nat.reduceEqDiff, goT, beq_self_eq_true, goH, goU, rs136, fp70, pss, ld70, st70, st70_1, put_push_eq, put_push_ne, push_len, toks_len, toks_get, index_list, load_row, fa43e_0, fa43e_2, drop0, drop2, row_head, *] | ((first | refine G_d ?_ ?_ | refine G_n ?_ ?_ | refine B_d ?_ ?_ | refine B_n ?_ ?_) <;> (intro _; try (exfalso; omega))) | refine run_draw (by kernel_rfl) ?_ | ((first | refine G_m ?_ ?_ | refine B_m ?_ ?_ | refine G_b ?_ ?_ | refine B_b ?_ ?_) <;> intro _))
    exact ⟨_, _, rfl, x0.out, _, _, t.n, rfl, ⟨n + 1, hlt, rfl, rfl⟩, rfl, fun y hy => by injection hy⟩
   ·rw [if_neg h1] at hP
    have he : runP numP e (.good r) = (none, failS e (.good r)) := by rw [runP_no hP, ← hrn]; rfl
    rw [he]
    subst hrow3
    clear x3 p3 hP he hrn
    refine call_post rfl Tryz.func136 rfl ?_
    repeat' (first | simp (config := { maxSteps := 4000000 }) (disch := first | exact dZ | fail) only [goS, plainEv, resultsEv, resultListEv, reduceIte, Nat.reduceEqDiff, goT, beq_self_eq_true, goH, goU, rs136, fp70, pss, ld70, st70, push_len, toks_len, toks_get, index_list, load_row, fa43e_0, fa43e_1, drop0, drop1, row_head, *] | (refine dX ?_ ?_ <;> (intro _; try (exfalso; omega))) | (refine dY ?_ ?_ <;> intro _) | fail)
    exact ⟨_, _, rfl, kx.out, _, _, 0, rfl, kp.out, rfl, fun y hy => by cases hy⟩
  ·have hP : numP r = .bad r := by rw [hrn, List.drop_eq_nil_of_le (by omega)]; rfl
   have he : runP numP e (.good r) = (none, failS e (.good r)) := by rw [runP_no hP]; rfl
   rw [he]
   subst hrow3
   clear x3 p3 hP he hrn
   refine call_post rfl Tryz.func136 rfl ?_
   repeat' (first | simp (config := { maxSteps := 4000000 }) (disch := first | exact dZ | fail) only [goS, plainEv, resultsEv, resultListEv, reduceIte, Nat.reduceEqDiff, goT, beq_self_eq_true, goH, goU, rs136, fp70, pss, ld70, st70, push_len, toks_len, *] | (refine dX ?_ ?_ <;> (intro _; try (exfalso; omega))) | (refine dY ?_ ?_ <;> intro _) | fail)
   exact ⟨_, _, rfl, kx.out, _, _, 0, rfl, kp.out, rfl, fun y hy => by cases hy⟩
end
end Go.Proofs.YtmdakolcndpjeaaGreatDoor
end

section
namespace Go.Proofs.YtmdakolcndpjeaaGreatDoor
open Go.AE Go.Lex Go.Pol Go.Syn
section
variable {tok : Tok} {sz : Nat} {l : List Tk} {e : Int}
theorem wantT_unit {α : Type} (x : List UInt8) (y : α) (s : Ps) : runP (fun r => (wantT x r).bind fun _ r => .ok y r) e s = ((runP (wantT x) e s).1.map (fun _ => y), (runP (wantT x) e s).2) := by
 rw [runP_bind]
 cases h : (runP (wantT x) e s).1 with
 | none => rfl
 | some u =>
  cases s with
  | bad a => cases h
  | good r =>
   cases hw : wantT x r with
   | ok u q => rw [runP_ok hw]; rfl
   | bad q => rw [runP_no hw] at h; cases h
theorem rfMode (D : Rd0 tok sz l) (hv : Valid l) {s : Ps} {row : List AV} (hr : PsRow tok sz l e s row) (h : Heap) : Steps1 encInt 93 [.agg row] tok sz l e h (runP modeR e s) := by
 have a70 := ag70; have s70 := sz70; have z70 := zc70
 have nx := fun (x : List UInt8) (hx : x.length ≠ 1) (h : Heap) => rfNext D hv hr 1 x (kind_word hx) h
 have wd := fun (x : List UInt8) (hx : x.length ≠ 1) (h : Heap) => rfWord D hv hr x hx h
 obtain ⟨n0, b0, a0, hrow⟩ := hr.some_row
 have f1 : ∀ (h2 : Heap), Ext ((h.push row).push (pst .nil 0 [] 0 0 false 0)) h2 → h2.boxes[h.boxes.length]? = some row ∧ h2.boxes[h.boxes.length + 1]? = some (pst .nil 0 [] 0 0 false 0) := fun h2 x2 =>
  ⟨x2.box _ _ (push_old (push_last h row)), x2.box (h.boxes.length + 1) (pst .nil 0 [] 0 0 false 0) (by have := push_last (h.push row) (pst .nil 0 [] 0 0 false 0); rw [push_len] at this; exact this)⟩
 have x0 : Ext h ((h.push row).push (pst .nil 0 [] 0 0 false 0)) := (Ext.push h row).trans (.push _ _)
 obtain ⟨h1, c1, x1⟩ := nx kOld (by decide) ((h.push row).push (pst .nil 0 [] 0 0 false 0))
 obtain ⟨q1, -⟩ := f1 h1 x1
 have m1 := (List.getElem?_eq_some_iff.1 q1).1
 simp only [kOld] at c1
 unfold Steps1
 have hit : ∀ (x : List UInt8) (k : Int), nxP x s = true → (∀ r, s = .good r → isT x r = true → modeR r = .ok k r.tail) → ∀ (row' : List AV), PsRow tok sz l e (runP (wantT x) e s).2 row' → PsRow tok sz l e (runP modeR e s).2 row' ∧ ∀ y, (runP modeR e s).1 = some y → k = y := by
  intro x k hn hm row' hp
  obtain ⟨r, hs, hi, he⟩ := (nx_run (e := e)).2 hn
  have := hm r hs hi
  subst hs
  rw [he] at hp
  rw [runP_ok this]
  exact ⟨hp, fun y hy => by injection hy⟩
 cases n1 : nxP kOld s with
 | true =>
  have n1' := n1
  simp only [kOld] at n1'
  rw [n1'] at c1
  obtain ⟨r2, h2, c2, x2, row2, rfl, p2⟩ := wd kOld (by decide) h1
  obtain ⟨-, z2⟩ := f1 h2 (x1.trans x2)
  have m2 := (List.getElem?_eq_some_iff.1 z2).1
  obtain ⟨p3, p4⟩ := hit kOld 1 n1 (fun r _ hi => by unfold modeR; rw [if_pos hi]) row2 p2
  obtain ⟨n2, b2, a2, rfl⟩ := p2.some_row
  have kx := Keep.mk (((x0.trans x1).trans x2).put_new (b := h.boxes.length + 1) (by omega) (pst tok sz l n2 e b2 a2))
  have kp := Keep.mk (And.intro p3 p4)
  subst hrow
  simp only [kOld] at c2
  clear hr nx wd f1 x0 x1 x2 hit p2 p3 p4 n1 n1' hv
  refine call_post rfl Tryz.func93 rfl ?_
  repeat' (first | simp (config := { maxSteps := 4000000 }) (disch := first | exact dZ | fail) only [goS, plainEv, resultsEv, resultListEv, reduceIte, Nat.reduceEqDiff, goT, beq_self_eq_true, goH, goU, rs93, pss, ld70, st70, push_len, *] | (refine dX ?_ ?_ <;> (intro _; try (exfalso; omega))) | (refine dY ?_ ?_ <;> intro _) | fail)
  exact ⟨_, _, rfl, kx.out, _, _, 1, rfl, kp.out.1, rfl, kp.out.2⟩
 | false =>
 have n1' := n1
 simp only [kOld] at n1'
 rw [n1'] at c1
 obtain ⟨h2, c2, x2⟩ := nx kNew (by decide) h1
 obtain ⟨q2, -⟩ := f1 h2 (x1.trans x2)
 have m2 := (List.getElem?_eq_some_iff.1 q2).1
 simp only [kNew] at c2
 have hn1 : ∀ r, s = .good r → ¬ isT kOld r = true := fun r hs hi => by
  have : nxP kOld s = true := by rw [hs]; exact hi
  rw [n1] at this; cases this
 cases n2 : nxP kNew s with
 | true =>
  have n2' := n2
  simp only [kNew] at n2'
  rw [n2'] at c2
  obtain ⟨r3, h3, c3, x3, row3, rfl, p2⟩ := wd kNew (by decide) h2
  obtain ⟨-, z2⟩ := f1 h3 ((x1.trans x2).trans x3)
  have m3 := (List.getElem?_eq_some_iff.1 z2).1
  obtain ⟨p3, p4⟩ := hit kNew 2 n2 (fun r hs hi => by unfold modeR; rw [if_neg (hn1 r hs), if_pos hi]) row3 p2
  obtain ⟨n2, b2, a2, rfl⟩ := p2.some_row
  have kx := Keep.mk ((((x0.trans x1).trans x2).trans x3).put_new (b := h.boxes.length + 1) (by omega) (pst tok sz l n2 e b2 a2))
  have kp := Keep.mk (And.intro p3 p4)
  subst hrow
  simp only [kNew] at c3
  clear hr nx wd f1 x0 x1 x2 x3 hit p2 p3 p4 n1 n1' n2' hn1 hv
  refine call_post rfl Tryz.func93 rfl ?_
  repeat' (first | simp (config := { maxSteps := 4000000 }) (disch := first | exact dZ | fail) only [goS, plainEv, resultsEv, resultListEv, reduceIte, Nat.reduceEqDiff, goT, beq_self_eq_true, goH, goU, rs93, pss, ld70, st70, push_len, *] | (refine dX ?_ ?_ <;> (intro _; try (exfalso; omega))) | (refine dY ?_ ?_ <;> intro _) | fail)
  exact ⟨_, _, rfl, kx.out, _, _, 2, rfl, kp.out.1, rfl, kp.out.2⟩
 | false =>
 have n2' := n2
 simp only [kNew] at n2'
 rw [n2'] at c2
 obtain ⟨h3, c3, x3⟩ := nx kBoth (by decide) h2
 obtain ⟨q3, -⟩ := f1 h3 ((x1.trans x2).trans x3)
 have m3 := (List.getElem?_eq_some_iff.1 q3).1
 simp only [kBoth] at c3
 have hn2 : ∀ r, s = .good r → ¬ isT kNew r = true := fun r hs hi => by
  have : nxP kNew s = true := by rw [hs]; exact hi
  rw [n2] at this; cases this
 cases n3 : nxP kBoth s with
 | true =>
  have n3' := n3
  simp only [kBoth] at n3'
  rw [n3'] at c3
  obtain ⟨r4, h4, c4, x4, row4, rfl, p2⟩ := wd kBoth (by decide) h3
  obtain ⟨-, z2⟩ := f1 h4 (((x1.trans x2).trans x3).trans x4)
  have m4 := (List.getElem?_eq_some_iff.1 z2).1
  obtain ⟨p3, p4⟩ := hit kBoth 3 n3 (fun r hs hi => by unfold modeR; rw [if_neg (hn1 r hs), if_neg (hn2 r hs), if_pos hi]) row4 p2
  obtain ⟨n2, b2, a2, rfl⟩ := p2.some_row
  have kx := Keep.mk (((((x0.trans x1).trans x2).trans x3).trans x4).put_new (b := h.boxes.length + 1) (by omega) (pst tok sz l n2 e b2 a2))
  have kp := Keep.mk (And.intro p3 p4)
  subst hrow
  simp only [kBoth] at c4
  clear hr nx wd f1 x0 x1 x2 x3 x4 hit p2 p3 p4 n1 n1' n2' n3' hn1 hn2 hv
  refine call_post rfl Tryz.func93 rfl ?_
  repeat' (first | simp (config := { maxSteps := 4000000 }) (disch := first | exact dZ | fail) only [goS, plainEv, resultsEv, resultListEv, reduceIte, Nat.reduceEqDiff, goT, beq_self_eq_true, goH, goU, rs93, pss, ld70, st70, push_len, *] | (refine dX ?_ ?_ <;> (intro _; try (exfalso; omega))) | (refine dY ?_ ?_ <;> intro _) | fail)
  exact ⟨_, _, rfl, kx.out, _, _, 3, rfl, kp.out.1, rfl, kp.out.2⟩
 | false =>
 have n3' := n3
 simp only [kBoth] at n3'
 rw [n3'] at c3
 have hn3 : ∀ r, s = .good r → ¬ isT kBoth r = true := fun r hs hi => by
  have : nxP kBoth s = true := by rw [hs]; exact hi
  rw [n3] at this; cases this
 obtain ⟨r4, h4, c4, x4, row4, rfl, p2⟩ := wd kEither (by decide) h3
 obtain ⟨-, z2⟩ := f1 h4 (((x1.trans x2).trans x3).trans x4)
 have m4 := (List.getElem?_eq_some_iff.1 z2).1
 have hP : runP modeR e s = ((runP (wantT kEither) e s).1.map (fun _ => (4 : Int)), (runP (wantT kEither) e s).2) := by
  rw [← wantT_unit]
  cases s with
  | bad a => rfl
  | good r =>
   have : modeR r = (wantT kEither r).bind fun _ r => .ok 4 r := by unfold modeR; rw [if_neg (hn1 r rfl), if_neg (hn2 r rfl), if_neg (hn3 r rfl)]
   simp only [runP, this]
 rw [hP]
 obtain ⟨n2, b2, a2, rfl⟩ := p2.some_row
 have kx := Keep.mk (((((x0.trans x1).trans x2).trans x3).trans x4).put_new (b := h.boxes.length + 1) (by omega) (pst tok sz l n2 e b2 a2))
 have kp := Keep.mk p2
 subst hrow
 simp only [kEither] at c4
 clear hr nx wd f1 x0 x1 x2 x3 x4 hit p2 hP n1 n1' n2' n3' hn1 hn2 hn3 hv
 refine call_post rfl Tryz.func93 rfl ?_
 repeat' (first | simp (config := { maxSteps := 4000000 }) (disch := first | exact dZ | fail) only [goS, plainEv, resultsEv, resultListEv, reduceIte, Nat.reduceEqDiff, goT, beq_self_eq_true, goH, goU, rs93, pss, ld70, st70, push_len, *] | (refine dX ?_ ?_ <;> (intro _; try (exfalso; omega))) | (refine dY ?_ ?_ <;> intro _) | fail)
 refine ⟨_, _, rfl, kx.out, _, _, 4, rfl, kp.out, rfl, fun y hy => ?_⟩
 cases q : (runP (wantT kEither) e s).1 with
 | none => rw [q] at hy; cases hy
 | some u => rw [q] at hy; injection hy
end
end Go.Proofs.YtmdakolcndpjeaaGreatDoor
end

section
namespace Go.Proofs.YtmdakolcndpjeaaGreatDoor
open Go.AE Go.Lex Go.Pol Go.Syn
section
variable {tok : Tok} {sz : Nat} {l : List Tk} {e : Int}
theorem runP_step {α β : Type} {P : List Tk → PR α} {f : α → List Tk → PR β} {s : Ps} {x : α} (hx : ∀ y, (runP P e s).1 = some y → x = y) : runP (fun l => (P l).bind f) e s = runP (f x) e (runP P e s).2 := by
 rw [runP_bind]
 cases h : (runP P e s).1 with
 | some y => rw [hx y h]
 | none =>
  obtain ⟨a, ha⟩ := runP_none h
  rw [ha]; rfl
theorem runP_last {α : Type} (x : α) (s : Ps) : (runP (fun r => PR.ok x r) e s).2 = s ∧ ∀ y, (runP (fun r => PR.ok x r) e s).1 = some y → x = y := by
 cases s with
 | bad a => exact ⟨rfl, fun y hy => by cases hy⟩
 | good r => exact ⟨rfl, fun y hy => by injection hy⟩
theorem good_inv {α : Type} {P : List Tk → PR α} {s : Ps} {q : List Tk} (h : (runP P e s).2 = .good q) : ∃ r x, s = .good r ∧ P r = .ok x q := by
 cases s with
 | bad a => cases h
 | good r =>
  cases hp : P r with
  | ok x q' => rw [runP_ok hp] at h; injection h with h; subst h; exact ⟨r, x, rfl, hp⟩
  | bad q' => rw [runP_no hp] at h; cases h
def Lt (m : Nat) (s : Ps) : Prop := ∀ r, s = .good r → r.length < m
theorem Lt.step {α : Type} {P : List Tk → PR α} {s : Ps} {m : Nat} (hl : ∀ r x q, P r = .ok x q → q.length ≤ r.length) (h : Lt m s) : Lt m (runP P e s).2 := fun q hq => by
 obtain ⟨r, x, rfl, hp⟩ := good_inv hq
 have := hl r x q hp
 have := h r rfl
 omega
theorem Lt.step1 {α : Type} {P : List Tk → PR α} {s : Ps} {m : Nat} (hl : ∀ r x q, P r = .ok x q → q.length < r.length) (h : Lt (m + 1) s) : Lt m (runP P e s).2 := fun q hq => by
 obtain ⟨r, x, rfl, hp⟩ := good_inv hq
 have := hl r x q hp
 have := h r rfl
 omega
theorem want_lt (x : List UInt8) : ∀ r u q, wantT x r = .ok u q → q.length < r.length := fun r u q h => by have := want_len h; omega
theorem num_lt : ∀ r u q, numP r = .ok u q → q.length < r.length := fun r u q h => by have := num_len h; omega
theorem name_lt : ∀ r u q, nameP r = .ok u q → q.length < r.length := fun r u q h => by have := name_len h; omega
theorem expr_le {m : Nat} : ∀ r u q, exprP m r = .ok u q → q.length ≤ r.length := fun r u q h => by have := expr_len _ _ _ _ h; omega
end
theorem rs98 : Tryz.f98.results.toList = [.cell 2 26, .cell 3 70] := by kernel_rfl
theorem rs153 : Tryz.f153.results.toList = [.cell 2 26, .cell 3 70] := by kernel_rfl
theorem rs137 : Tryz.f137.results.toList = [.cell 2 26, .cell 3 70] := by kernel_rfl
def zE : Ex := .mk 0 0 0 [] []
def zE5 : List AV := row5 0 0 0 [] .nil 0 []
theorem row_zE : Row zE zE5 := .mk _ _ _ _ _ _ _ _ rfl (fun i hi => absurd hi (Nat.not_lt_zero i)) (Nat.zero_le _) (fun i x r h => by simp at h)
theorem zc26r : (zeroA Tryz.prog 26).bind AV.cellsO = some zE5 := by kernel_rfl
theorem bz26 : buildEv Tryz.prog 26 [] = some (.agg zE5) := by kernel_rfl
theorem len5r {α : Type} {r : List α} (h : r.length = 5) : (r.drop 0).take 5 = r ∧ 5 ≤ (r.drop 0).length := by
 rw [List.drop_zero]
 exact ⟨by rw [← h, List.take_length], by omega⟩
section
variable {h : Heap} {c : Nat} {r r' : List AV}
theorem ldE (hb : h.boxes[c]? = some r) (hr : r.length = 5) : loadEv Tryz.prog (fun _ => none) h 26 (.ptr (.box c) 0) = some (.agg r) := by
 rw [load_agg ag26 sz26 hb (by omega), (len5r hr).1]
theorem stE (hb : h.boxes[c]? = some r') (hc : (AV.agg r).cellsO = some r) (hr : r.length = 5) (hr' : r'.length = 5) : storeEv Tryz.prog h 26 (.ptr (.box c) 0) (.agg r) = some (h.put c r) := by
 have := store_box (P := Tryz.prog) (t := 26) (x := .agg r) (off := 0) (cs := r') (xs := r) hc sz26 hb hr (by omega)
 rw [this, splice_all (by omega)]
end
theorem Row.cells {x : Ex} {r : List AV} (h : Row x r) : (AV.agg r).cellsO = some r := by cases h; rfl
def encX (x : Ex) (v : AV) : Prop := ∃ r, v = .agg r ∧ Row x r
section
variable {tok : Tok} {sz : Nat} {l : List Tk} {e : Int}
def RX (tok : Tok) (sz : Nat) (l : List Tk) (e : Int) (m : Nat) : Prop := ∀ (r : List Tk) (row : List AV) (h : Heap), PsRow tok sz l e (.good r) row → r.length < m → okHeap h = true → Steps1 encX 137 [.agg row] tok sz l e h (runP (exprP m) e (.good r))
theorem vs_toks' (k : Tok) (sz : Nat) (l : List Tk) : sameAV (.list k sz (toks l)) (.list k sz (toks l)) = true := by
 have := vs_toks k l
 simp only [sameAV, Bool.and_eq_true] at this ⊢
 exact ⟨⟨this.1.1, Nat.beq_refl sz⟩, this.2⟩
theorem same_pst (tok : Tok) (sz : Nat) (l : List Tk) (n e : Int) (b : Bool) (a : Int) : sameAV (.agg (pst tok sz l n e b a)) (.agg (pst tok sz l n e b a)) = true := by
 have := vs_toks' tok sz l
 simp [pst, sameAV, sameL, sameV]
 simpa [sameAV] using this
theorem rfWhole {m : Nat} (E : RX tok sz l e m) {s : Ps} {row : List AV} (hr : PsRow tok sz l e s row) (hl : Lt m s) (h : Heap) (ho : okHeap h = true) : Steps1 encX 98 [.agg row] tok sz l e h (runP (exprP m) e s) := by
 have a70 := ag70; have s70 := sz70; have z70 := zc70; have a4 := ag4'; have a26 := ag26; have s26 := sz26; have z26 := zc26r
 have zl : zE5.length = 5 := rfl
 have zc : (AV.agg zE5).cellsO = some zE5 := rfl
 cases s with
 | bad a =>
  obtain ⟨n, hn, rfl⟩ := hr
  have x0 := Keep.mk (((Ext.push h (pst tok sz l n e true a)).trans (.push _ zE5)).trans (.push _ (pst tok sz l n e true a)))
  unfold Steps1
  clear E hl ho
  refine call_post rfl Tryz.func98 rfl ?_
  repeat' (first | simp (config := { maxSteps := 4000000 }) (disch := first | exact dZ | fail) only [goS, plainEv, resultsEv, resultListEv, reduceIte, Nat.reduceEqDiff, goT, beq_self_eq_true, goH, goU, rs98, fp70, pss, ld70, st70, bz26, ldE, stE, put_push_eq, put_push_ne, push_len, *] | (refine dX ?_ ?_ <;> (intro _; try (exfalso; omega))) | (refine dY ?_ ?_ <;> intro _) | fail)
  refine run_draw_but [(1, 2)] (by kernel_rfl) ?_ ?_
  ·intro pr hp
   simp only [List.mem_singleton] at hp
   subst hp
   refine stable_before (x := .ptr (.box h.boxes.length) 0) (v := .agg (pst tok sz l n e true a)) (by kernel_rfl) rfl rfl rfl (by kernel_rfl) (same_pst _ _ _ _ _ _ _) ?_ ?_
   ·simp only [List.take_succ_cons, List.take_zero]
    repeat' (first | simp (config := { maxSteps := 4000000 }) (disch := first | exact dZ | fail) only [goS, plainEv, resultsEv, resultListEv, reduceIte, Nat.reduceEqDiff, goT, beq_self_eq_true, goH, goU, pss, ld70, bz26, push_len, *] | (refine dX ?_ ?_ <;> (intro _; try (exfalso; omega))) | (refine dY ?_ ?_ <;> intro _) | fail)
    exact ⟨by trivial, by trivial, by trivial⟩
   ·simp only [List.take_succ_cons, List.take_zero]
    repeat' (first | simp (config := { maxSteps := 4000000 }) (disch := first | exact dZ | fail) only [goS, plainEv, resultsEv, resultListEv, reduceIte, Nat.reduceEqDiff, goT, beq_self_eq_true, goH, goU, pss, ld70, bz26, ldE, stE, put_push_eq, put_push_ne, push_len, *] | (refine dX ?_ ?_ <;> (intro _; try (exfalso; omega))) | (refine dY ?_ ?_ <;> intro _) | fail)
    exact ⟨by trivial, by trivial⟩
  repeat' (first | simp (config := { maxSteps := 4000000 }) (disch := first | exact dZ | fail) only [goS, plainEv, resultsEv, resultListEv, reduceIte, Nat.reduceEqDiff, goT, beq_self_eq_true, goH, goU, rs98, fp70, pss, ld70, st70, bz26, ldE, stE, put_push_eq, put_push_ne, push_len, *] | ((first | refine G_d ?_ ?_ | refine G_n ?_ ?_ | refine B_d ?_ ?_ | refine B_n ?_ ?_) <;> (intro _; try (exfalso; omega))) | refine run_draw (by kernel_rfl) ?_ | ((first | refine G_m ?_ ?_ | refine B_m ?_ ?_ | refine G_b ?_ ?_ | refine B_b ?_ ?_) <;> intro _))
  exact ⟨_, _, rfl, x0.out, _, _, zE, rfl, ⟨n, hn, rfl⟩, ⟨_, rfl, row_zE⟩, fun y hy => by cases hy⟩
 | good r =>
  have o1 : okHeap (((h.push row).push zE5).push (pst .nil 0 [] 0 0 false 0)) = true := ho
  obtain ⟨r2, h2, c2, x2, v, row2, x, rfl, p2, ⟨rx, rfl, hx⟩, q2⟩ := E r row (((h.push row).push zE5).push (pst .nil 0 [] 0 0 false 0)) hr (hl r rfl) o1
  have b1 := x2.box (h.boxes.length + 1) zE5 (push_old (by have := push_last (h.push row) zE5; rw [push_len] at this; exact this))
  have b2 := x2.box (h.boxes.length + 1 + 1) (pst .nil 0 [] 0 0 false 0) (by have := push_last ((h.push row).push zE5) (pst .nil 0 [] 0 0 false 0); rw [push_len, push_len] at this; exact this)
  have m1 := (List.getElem?_eq_some_iff.1 b1).1
  have m2 := (List.getElem?_eq_some_iff.1 b2).1
  have rl := hx.len
  have rc := Row.cells hx
  obtain ⟨n2, bb2, a2, rfl⟩ := p2.some_row
  obtain ⟨n0, hn0, hrn, rfl⟩ := hr
  have kx := Keep.mk ((((((Ext.push h (pst tok sz l n0 e false 0)).trans (.push _ zE5)).trans (.push _ (pst .nil 0 [] 0 0 false 0))).trans x2).put_new (b := h.boxes.length + 1) (by omega) rx).put_new (b := h.boxes.length + 1 + 1) (by omega) (pst tok sz l n2 e bb2 a2))
  have kp := Keep.mk p2
  have kr := Keep.mk hx
  have kq := Keep.mk q2
  unfold Steps1
  clear E hl ho x2 p2 hx q2 hrn o1
  refine call_post rfl Tryz.func98 rfl ?_
  repeat' (first | simp (config := { maxSteps := 4000000 }) (disch := first | exact dZ | fail) only [goS, plainEv, resultsEv, resultListEv, reduceIte, Nat.reduceEqDiff, goT, beq_self_eq_true, goH, goU, rs98, fp70, pss, ld70, st70, ldE, stE, push_len, *] | (refine dX ?_ ?_ <;> (intro _; try (exfalso; omega))) | (refine dY ?_ ?_ <;> intro _) | fail)
  exact ⟨_, _, rfl, kx.out, _, _, x, rfl, kp.out, ⟨_, rfl, by rw [(len5r rl).1]; exact kr.out⟩, kq.out⟩
theorem rfInside {m : Nat} (E : RX tok sz l e m) (D : Rd0 tok sz l) (hv : Valid l) {s : Ps} {row : List AV} (hr : PsRow tok sz l e s row) (hl : Lt m s) (h : Heap) (ho : okHeap h = true) : Steps1 encX 153 [.agg row] tok sz l e h (runP (inP (exprP m)) e s) := by
 have a70 := ag70; have s70 := sz70; have z70 := zc70; have a4 := ag4'; have a26 := ag26; have s26 := sz26; have z26 := zc26r
 have zl : zE5.length = 5 := rfl
 have zc : (AV.agg zE5).cellsO = some zE5 := rfl
 have x0 : Ext h (((h.push row).push zE5).push (pst .nil 0 [] 0 0 false 0)) := ((Ext.push h row).trans (.push _ zE5)).trans (.push _ (pst .nil 0 [] 0 0 false 0))
 have o0 : okHeap (((h.push row).push zE5).push (pst .nil 0 [] 0 0 false 0)) = true := ho
 obtain ⟨r1, h1, c1, x1, row1, rfl, p1⟩ := rfSign D hv hr cOpen (by decide) (((h.push row).push zE5).push (pst .nil 0 [] 0 0 false 0))
 have l1 : Lt m (runP (wantT cOpen) e s).2 := hl.step fun r x q hq => Nat.le_of_lt (want_lt _ r x q hq)
 obtain ⟨r2, h2, c2, x2, v2, row2, x, rfl, p2, ⟨rx, rfl, hx⟩, q2⟩ := rfWhole E p1 l1 h1 (x1.ok o0)
 obtain ⟨r3, h3, c3, x3, row3, rfl, p3⟩ := rfSign D hv p2 cClose (by decide) ((h2.push rx).push row2)
 have b1 := (x1.trans x2).box (h.boxes.length + 1) zE5 (push_old (by have := push_last (h.push row) zE5; rw [push_len] at this; exact this))
 have b2 := (x1.trans x2).box (h.boxes.length + 1 + 1) (pst .nil 0 [] 0 0 false 0) (by have := push_last ((h.push row).push zE5) (pst .nil 0 [] 0 0 false 0); rw [push_len, push_len] at this; exact this)
 have d1 := x3.box _ _ (push_old (cs := row2) (push_old (cs := rx) b1))
 have d2 := x3.box _ _ (push_old (cs := row2) (push_old (cs := rx) b2))
 have d3 := x3.box _ _ (push_old (cs := row2) (push_last h2 rx))
 have m1 := (List.getElem?_eq_some_iff.1 d1).1
 have m2 := (List.getElem?_eq_some_iff.1 d2).1
 have m3 := (List.getElem?_eq_some_iff.1 d3).1
 have mb := (List.getElem?_eq_some_iff.1 b1).1
 have mc := (List.getElem?_eq_some_iff.1 b2).1
 have rl := hx.len
 have tk5 : (rx.drop 0).take 5 = rx := (len5r rl).1
 have rc := Row.cells hx
 have hsame : sameAV (.agg rx) (.agg rx) = true := by rw [sameAV]; exact Row.same _ _ hx
 have hfin : runP (inP (exprP m)) e s = runP (fun r => PR.ok x r) e (runP (wantT cClose) e (runP (exprP m) e (runP (wantT cOpen) e s).2).2).2 := by
  show runP (fun l => (wantT cOpen l).bind fun _ r => (exprP m r).bind fun x r => (wantT cClose r).bind fun _ r => .ok x r) e s = _
  rw [runP_step (x := ()) (fun y _ => rfl), runP_step q2, runP_step (x := ()) (fun y _ => rfl)]
 rw [hfin]
 obtain ⟨w1, w2⟩ := runP_last (e := e) x (runP (wantT cClose) e (runP (exprP m) e (runP (wantT cOpen) e s).2).2).2
 unfold Steps1
 rw [w1]
 simp only [cOpen] at c1
 simp only [cClose] at c3
 have kw := Keep.mk w2
 have kp := Keep.mk p3
 have kr := Keep.mk hx
 have hrow := hr.some_row
 obtain ⟨n0, b0, a0, rfl⟩ := hrow
 obtain ⟨n1, bb1, a1, rfl⟩ := p1.some_row
 obtain ⟨n2, bb2, a2, rfl⟩ := p2.some_row
 obtain ⟨n3, bb3, a3', rfl⟩ := p3.some_row
 have kx := Keep.mk (((((x0.trans x1).trans x2).trans (((Ext.push h2 rx).trans (.push _ (pst tok sz l n2 e bb2 a2))).trans x3)).put_new (b := h.boxes.length + 1) (by omega) rx).put_new (b := h.boxes.length + 1 + 1) (by omega) (pst tok sz l n3 e bb3 a3'))
 clear E D hv hl ho hr p1 p2 p3 hx q2 hfin w1 w2 x0 x1 x2 x3 o0 l1
 refine call_post rfl Tryz.func153 rfl ?_
 repeat' (first | simp (config := { maxSteps := 4000000 }) (disch := first | exact dZ | fail) only [goS, plainEv, resultsEv, resultListEv, reduceIte, Nat.reduceEqDiff, goT, beq_self_eq_true, goH, goU, rs153, tk5, pss, ld70, st70, ldE, stE, put_push_eq, put_push_ne, push_len, *] | (refine dX ?_ ?_ <;> (intro _; try (exfalso; omega))) | (refine dY ?_ ?_ <;> intro _) | fail)
 refine run_draw_but [(0, 2)] (by kernel_rfl) ?_ ?_
 ·intro pr hp
  simp only [List.mem_singleton] at hp
  subst hp
  refine stable_before (x := .ptr (.box h2.boxes.length) 0) (v := .agg rx) (by kernel_rfl) rfl rfl rfl (by kernel_rfl) hsame ?_ ?_
  ·simp only [List.take_succ_cons, List.take_zero]
   repeat' (first | simp (config := { maxSteps := 4000000 }) (disch := first | exact dZ | fail) only [goS, plainEv, resultsEv, resultListEv, reduceIte, Nat.reduceEqDiff, goT, beq_self_eq_true, goH, goU, tk5, ldE, ld70, push_len, *] | (refine dX ?_ ?_ <;> (intro _; try (exfalso; omega))) | (refine dY ?_ ?_ <;> intro _) | fail)
   exact ⟨by trivial, by trivial, by trivial⟩
  ·simp only [List.take_succ_cons, List.take_zero]
   repeat' (first | simp (config := { maxSteps := 4000000 }) (disch := first | exact dZ | fail) only [goS, plainEv, resultsEv, resultListEv, reduceIte, Nat.reduceEqDiff, goT, beq_self_eq_true, goH, goU, tk5, ldE, ld70, push_len, *] | (refine dX ?_ ?_ <;> (intro _; try (exfalso; omega))) | (refine dY ?_ ?_ <;> intro _) | fail)
   exact ⟨by trivial, by trivial⟩
 repeat' (first | simp (config := { maxSteps := 4000000 }) (disch := first | exact dZ | fail) only [goS, plainEv, resultsEv, resultListEv, reduceIte, Nat.reduceEqDiff, goT, beq_self_eq_true, goH, goU, rs153, tk5, pss, ld70, st70, ldE, stE, put_push_eq, put_push_ne, push_len, *] | (refine dX ?_ ?_ <;> (intro _; try (exfalso; omega))) | (refine dY ?_ ?_ <;> intro _) | fail)
 exact ⟨_, _, rfl, kx.out, _, _, x, rfl, kp.out, ⟨_, rfl, kr.out⟩, kw.out⟩
end
end Go.Proofs.YtmdakolcndpjeaaGreatDoor
end
