/-
 Part of the proof: SD.
-/
import Derived.Test.YtmdakolcndpjeaaGreatDoorSA
import Derived.Test.YtmdakolcndpjeaaGreatDoorE4
import Derived.Test.YtmdakolcndpjeaaGreatDoorRows
import Derived.Lib.AtoiAllCases
set_option maxHeartbeats 64000000
set_option maxRecDepth 100000
set_option linter.unusedSimpArgs false
set_option linter.unusedVariables false
set_option linter.constructorNameAsVariable false
section
namespace Go.Proofs.YtmdakolcndpjeaaGreatDoor
open Go.AE Go.Lex
theorem cells3 : Tryz.prog.cellsOf 3 = 1 := by kernel_rfl
theorem cells43 : Tryz.prog.cellsOf 43 = 4 := by kernel_rfl
theorem cells9 : Tryz.prog.cellsOf 9 = 1 := by kernel_rfl
theorem str43 : structIs Tryz.prog 43 [(3, 0), (9, 1), (3, 2), (3, 3)] = true := by kernel_rfl
theorem has_tk {H : Type} {x : List AV} {d : DataW H} (h : Has Tryz.prog 43 x d) : ∃ t : Tk, x = t.row := by
 obtain ⟨hl, hg⟩ := h.fields str43
 rw [cells43] at hl
 obtain ⟨a, b, c, e, rfl⟩ := len4 hl
 obtain ⟨_, q0⟩ := hg 0 3 0 rfl
 obtain ⟨_, q1⟩ := hg 1 9 1 rfl
 obtain ⟨_, q2⟩ := hg 2 3 2 rfl
 obtain ⟨_, q3⟩ := hg 3 3 3 rfl
 rw [cells3] at q0 q2 q3
 rw [cells9] at q1
 obtain ⟨n0, r0, -⟩ := q0.i64_inv Tryz.underlying3
 obtain ⟨s1, r1, -⟩ := q1.str_inv Tryz.underlying9
 obtain ⟨n2, r2, -⟩ := q2.i64_inv Tryz.underlying3
 obtain ⟨n3, r3, -⟩ := q3.i64_inv Tryz.underlying3
 simp at r0 r1 r2 r3
 exact ⟨⟨n0, s1, n2, n3⟩, by rw [r0, r1, r2, r3]; rfl⟩
theorem has_string {H : Type} {x : AV} {d : DataW H} (h : HasV Tryz.prog 9 x d) : ∃ l : List UInt8, x = .v (.string (bs l)) ∧ l.length ≤ 9223372036854775807 := by
 obtain ⟨l, h1, h2⟩ := h.str_inv Tryz.underlying9
 exact ⟨l, h1, by simpa [maxLen] using h2⟩
end Go.Proofs.YtmdakolcndpjeaaGreatDoor
end

section
namespace Go.Proofs.YtmdakolcndpjeaaGreatDoor
open Go.AE Go.Lex
def textS (l : List Tk) : List UInt8 := if l.all validB then joinS l else []
def textE (l : List Tk) : Int := if l.all validB then 0 else 30
theorem textB_eq (l : List Tk) : textB l = .tuple [.v (.string (bs (textS l))), .v (.int .i64 (textE l))] := by
 unfold textB textS textE
 split <;> rfl
theorem answerT {h : Heap} {b : Bool} (hb : b = true) : ∃ h', (some (Res.ret (AV.v (.bool b)), h) : Option (Res × Heap)) = some (.ret (.v (.bool true)), h') ∧ True := ⟨h, by rw [hb], trivial⟩
end Go.Proofs.YtmdakolcndpjeaaGreatDoor
end

section
namespace Go.Proofs.YtmdakolcndpjeaaGreatDoor
open Go.AE
theorem len1 {α : Type} {l : List α} (h : l.length = 1) : ∃ a, l = [a] := List.length_eq_one_iff.1 h
theorem seat_own : ownKnob Tryz.prog.godebug = none := by kernel_rfl
theorem seat_codes : (Tryz.prog.funcs.all fun fn => match fn.body with | some c => codeOk fn.ntmps c | none => true) = true := by kernel_rfl
theorem seat_names : (Tryz.prog.funcs.all fun fn => !(fn.name == "runtime.NumGoroutine")) = true := by kernel_rfl
theorem seat_prog : Prog Tryz.prog := ⟨fun g fn h => by
 have := Array.all_eq_true'.1 seat_names fn (Array.mem_of_getElem? h)
 simpa using this, by kernel_rfl, fun g fn c h hb => by
 have := Array.all_eq_true'.1 seat_codes fn (Array.mem_of_getElem? h)
 simpa [hb] using this⟩
end Go.Proofs.YtmdakolcndpjeaaGreatDoor
end

section
namespace Go.Proofs.YtmdakolcndpjeaaGreatDoor
open Go.AE Go.Lex
theorem fa82_0 (r : Ref) (off : Nat) : fieldAddrEv Tryz.prog 82 (.ptr r off) 0 = some (.ptr r (off + 0)) := by kernel_rfl
theorem fa82_1 (r : Ref) (off : Nat) : fieldAddrEv Tryz.prog 82 (.ptr r off) 1 = some (.ptr r (off + 1)) := by kernel_rfl
theorem fa82_2 (r : Ref) (off : Nat) : fieldAddrEv Tryz.prog 82 (.ptr r off) 2 = some (.ptr r (off + 2)) := by kernel_rfl
theorem ag39 : isAggB Tryz.prog 39 = some false := by kernel_rfl
theorem sz39 : sizeB Tryz.prog 39 = some 1 := by kernel_rfl
def ints (l : List Int) : List (List AV) := l.map fun n => [.v (.int .i64 n)]
theorem intsOf_ints (l : List Int) : intsOf (ints l) = some l := by
 induction l with
 | nil => rfl
 | cons n l ih => simp only [ints, List.map_cons, intsOf] at ih ⊢; rw [ih]; rfl
theorem contains_ev (k : Tok) (l : List Int) (n : Int) (hl : l.length ≤ 9223372036854775807) (h : Heap) : W.call 138 [.list k 1 (ints l), .v (.int .i64 n)] h = some (.ret (.v (.bool (l.contains n))), h) := by
 rw [whole_call]
 show (pContains _ _).map _ = _
 have hr : rowsOf h 1 (.list k 1 (ints l)) = some (ints l) := by unfold rowsOf; simp
 unfold pContains
 simp only [hr, intsOf_ints]
 rw [if_pos (by simpa [ints] using hl)]
 rfl
theorem getD_drop {l : List UInt8} {i : Nat} (h : i < l.length) : l.drop i = l.getD i 0 :: l.drop (i + 1) := by
 rw [List.drop_eq_getElem_cons h]
 simp [h]
theorem res43 : Tryz.f100.results.toList = [.tmp 4] := by kernel_rfl
theorem answerS {x y : List UInt8} {h : Heap} (hb : x = y) : (some (Res.ret (AV.v (.string (bs x))), h) : Option (Res × Heap)) = some (.ret (.v (.string (bs y))), h) := by rw [hb]
theorem run_ev (b : Nat) (src : List UInt8) (at_ : Nat) (L : AV) (k : Tok) (cl : List Int) (h : Heap) (hb : h.boxes[b]? = some [.v (.string (bs src)), .v (.int .i64 at_), L]) (hat : at_ ≤ src.length) (hs : src.length ≤ 70000) (hc : cl.length ≤ 6) :
 W.call 100 [.ptr (.box b) 0, .list k 1 (ints cl)] h = some (.ret (.v (.string (bs ((src.drop at_).takeWhile (fun c => cl.contains (cls c)))))), h) := by
 have u9 := Tryz.underlying9; have u39 := Tryz.underlying39; have a3 := ag3; have a9 := ag9
 refine call_of_run rfl Tryz.func100 rfl ?_
 repeat' (first | simp (config := { maxSteps := 4000000 }) (disch := first | exact dZ | fail) only [goS, append_gt, append_gt_yes, plainEv, resultsEv, resultListEv, reduceIte, Nat.reduceEqDiff, goT, beq_self_eq_true, goH, goU, res43, fa82_1, cell31, *] | ((first | refine G_d ?_ ?_ | refine G_n ?_ ?_ | refine B_d ?_ ?_ | refine B_n ?_ ?_) <;> (intro _; try (exfalso; omega))) | refine run_draw (by kernel_rfl) ?_ | ((first | refine G_m ?_ ?_ | refine B_m ?_ ?_ | refine G_b ?_ ?_ | refine B_b ?_ ?_) <;> intro _))
 refine run_loop (fun n e h' => ∃ i : Nat, at_ ≤ i ∧ i ≤ src.length ∧ n = src.length - i ∧ e.get 0 = .ptr (.box b) 0 ∧ e.get 1 = .list k 1 (ints cl) ∧ e.get 5 = .v (.int .i64 i) ∧ e.defers = [] ∧ h' = h ∧
  (src.drop at_).takeWhile (fun c => cl.contains (cls c)) = (src.take i).drop at_ ++ (src.drop i).takeWhile (fun c => cl.contains (cls c))) ?_ (src.length - at_) _ _ ?_
 ·rintro n e h' ⟨i, hi0, hi, rfl, g0, g1, g5, hd, rfl, hno⟩
  have hk := Keep.mk hno
  clear hno
  by_cases hlt : i < src.length
  ·have hdr := Keep.mk (getD_drop hlt)
   by_cases hin : cl.contains (cls (src.getD i 0)) = true
   ·repeat' (first | simp (config := { maxSteps := 4000000 }) (disch := first | exact dZ | fail) only [goS, append_gt, append_gt_yes, plainEv, resultsEv, resultListEv, reduceIte, Nat.reduceEqDiff, goT, beq_self_eq_true, goH, goU, res43, fa82_0, fa82_1, cell30, cell31, class_ev, contains_ev, *] | ((first | refine G_d ?_ ?_ | refine G_n ?_ ?_ | refine B_d ?_ ?_ | refine B_n ?_ ?_) <;> (intro _; try (exfalso; omega))) | refine run_draw (by kernel_rfl) ?_ | ((first | refine G_m ?_ ?_ | refine B_m ?_ ?_ | refine G_b ?_ ?_ | refine B_b ?_ ?_) <;> intro _))
    refine ⟨src.length - (i + 1), by omega, i + 1, by omega, by omega, rfl, trivial, trivial, by simp, trivial, trivial, ?_⟩
    rw [hk.out, hdr.out, List.takeWhile_cons, if_pos hin]
    rw [List.take_succ_eq_append_getElem hlt, List.drop_append_of_le_length (by simp; omega)]
    simp [hlt]
   ·have hin : cl.contains (cls (src.getD i 0)) = false := by simpa using hin
    repeat' (first | simp (config := { maxSteps := 4000000 }) (disch := first | exact dZ | fail) only [goS, append_gt, append_gt_yes, plainEv, resultsEv, resultListEv, reduceIte, Nat.reduceEqDiff, goT, beq_self_eq_true, goH, goU, res43, fa82_0, fa82_1, cell30, cell31, class_ev, contains_ev, *] | ((first | refine G_d ?_ ?_ | refine G_n ?_ ?_ | refine B_d ?_ ?_ | refine B_n ?_ ?_) <;> (intro _; try (exfalso; omega))) | refine run_draw (by kernel_rfl) ?_ | ((first | refine G_m ?_ ?_ | refine B_m ?_ ?_ | refine G_b ?_ ?_ | refine B_b ?_ ?_) <;> intro _))
    refine answerS ?_
    rw [hk.out, hdr.out, List.takeWhile_cons, hin]
    simp
  ·have hie : i = src.length := by omega
   subst hie
   clear hi hlt
   repeat' (first | simp (config := { maxSteps := 4000000 }) (disch := first | exact dZ | fail) only [goS, append_gt, append_gt_yes, plainEv, resultsEv, resultListEv, reduceIte, Nat.reduceEqDiff, goT, beq_self_eq_true, goH, goU, res43, fa82_0, fa82_1, cell30, cell31, class_ev, contains_ev, *] | ((first | refine G_d ?_ ?_ | refine G_n ?_ ?_ | refine B_d ?_ ?_ | refine B_n ?_ ?_) <;> (intro _; try (exfalso; omega))) | refine run_draw (by kernel_rfl) ?_ | ((first | refine G_m ?_ ?_ | refine B_m ?_ ?_ | refine G_b ?_ ?_ | refine B_b ?_ ?_) <;> intro _))
   refine answerS ?_
   rw [hk.out]
   simp
 ·refine ⟨at_, by omega, by omega, rfl, ?_, ?_, ?_, ?_, rfl, ?_⟩
  iterate 4
   ·simp only [goS, append_gt, append_gt_yes, plainEv, resultsEv, resultListEv, reduceIte, Nat.reduceEqDiff, goT, beq_self_eq_true] <;> rfl
  ·rw [List.drop_take]
   simp
end Go.Proofs.YtmdakolcndpjeaaGreatDoor
end

section
namespace Go.Proofs.YtmdakolcndpjeaaGreatDoor
open Go.AE Go.Lex
def scan (src : List UInt8) (at_ : Nat) (tok : Tok) (sz : Nat) (l : List Tk) : List AV := [.v (.string (bs src)), .v (.int .i64 at_), .list tok sz (toks l)]
theorem toks_app (l : List Tk) (t : Tk) : toks l ++ [t.row] = toks (l ++ [t]) := by simp [toks]
theorem app_tok {h : Heap} {k : Tok} {sz : Nat} {l : List Tk} {t : Tk} (hk : CanApp 0 h k) (hs : sz = 4 ∨ (l = [] ∧ k = .nil)) (hl : l.length ≤ 70000) :
 appendEv Tryz.prog h #[39, 39] (.list k sz (toks l)) (.list .tight 4 [t.row]) = some (.list (.free h.tn) 4 (toks (l ++ [t])), h.app k) := by
 have hi : (Tryz.prog.info? 43).map (fun i => (i.bytes, i.size, i.zero.map fun z => z.cells.size)) = some (40, 4, some 4) := by kernel_rfl
 cases hq : Tryz.prog.info? 43 with
 | none => rw [hq] at hi; cases hi
 | some i =>
  rw [hq] at hi
  simp only [Option.map_some, Option.some.injEq, Prod.mk.injEq] at hi
  obtain ⟨i1, i2, i3⟩ := hi
  have := append_rows (k' := .tight) (new := [t.row]) (es := toks l) Tryz.underlying39 Tryz.underlying39 hq (by omega) (by rw [i3, i2]) (by simp) (by rw [i1, toks_len]; simp only [List.length_singleton]; omega) (by rw [toks_len]; simp only [List.length_singleton]; omega)
   (by rw [i2]; exact hs.imp_right fun q => ⟨by rw [q.1]; rfl, q.2⟩) hk
  rw [i2, toks_app] at this
  exact this
theorem build_tok (t : Tk) : buildSliceEv Tryz.prog 39 1 [(0, .agg t.row)] = some (.list .tight 4 [t.row]) := by kernel_rfl
theorem row_at (t : Tk) (n : Int) : splice t.row 3 [.v (.int .i64 n)] = ({ t with at_ := n } : Tk).row := rfl
theorem ii42 : isIface Tryz.prog 75 = some false := by kernel_rfl
theorem res44 : Tryz.f101.results.toList = [] := by kernel_rfl
theorem add_bad (b n0 : Nat) (src text : List UInt8) (at_ : Nat) (L : AV) (t : Tk) (h : Heap) (hb : h.boxes[b]? = some [.v (.string (bs src)), .v (.int .i64 at_), L]) (hv : validB t = false) (hn : n0 ≤ h.tn) :
 ∃ h', W.call 101 [.ptr (.box b) 0, .v (.string (bs text)), .agg t.row] h = some (.panic (.iface 75 (.v (.int .i64 at_))), h') ∧ Mut b n0 h h' := by
 have u9 := Tryz.underlying9; have u39 := Tryz.underlying39; have a3 := ag3; have a9 := ag9; have a35 := ag43; have s35 := sz43; have i42 := ii42
 have rl := row_len t
 have hlt := (List.getElem?_eq_some_iff.1 hb).1
 have key := Keep.mk ((Ext.push h t.row).trans (.push _ t.row))
 refine call_ex rfl Tryz.func101 rfl ?_
 repeat' (first | simp (config := { maxSteps := 4000000 }) (disch := first | exact dZ | fail) only [goS, append_gt, append_gt_yes, plainEv, resultsEv, resultListEv, reduceIte, Nat.reduceEqDiff, goT, beq_self_eq_true, goH, goU, res44, row_cells, row_drop, row_take, valid_ev, fa82_1, cell31, *] | ((first | refine G_d ?_ ?_ | refine G_n ?_ ?_ | refine B_d ?_ ?_ | refine B_n ?_ ?_) <;> (intro _; try (exfalso; omega))) | refine run_draw (by kernel_rfl) ?_ | ((first | refine G_m ?_ ?_ | refine B_m ?_ ?_ | refine G_b ?_ ?_ | refine B_b ?_ ?_) <;> intro _))
 exact ⟨_, rfl, .of_ext key.out hn⟩
theorem add_ok (b n0 : Nat) (src text : List UInt8) (at_ : Nat) (tok : Tok) (sz : Nat) (l : List Tk) (t : Tk) (h : Heap) (hb : h.boxes[b]? = some [.v (.string (bs src)), .v (.int .i64 at_), .list tok sz (toks l)]) (hv : validB t = true) (hn : n0 ≤ h.tn)
 (hk : CanApp n0 h tok) (hsz : sz = 4 ∨ (l = [] ∧ tok = .nil)) (ho : okHeap h = true) (hl : l.length ≤ 70000) (hat : at_ + text.length ≤ 70000) :
 ∃ h', W.call 101 [.ptr (.box b) 0, .v (.string (bs text)), .agg t.row] h = some (.ret (.tuple []), h') ∧ Mut b n0 h h' ∧ ∃ tok', h'.boxes[b]? = some (scan src (at_ + text.length) tok' 4 (l ++ [{ t with at_ := at_ }])) ∧ CanApp n0 h' tok' := by
 have u9 := Tryz.underlying9; have u39 := Tryz.underlying39; have a3 := ag3; have a9 := ag9; have a35 := ag43; have s35 := sz43; have i42 := ii42; have a23 := ag39; have s23 := sz39; have s3 := sz3
 have rl := row_len t
 have rl2 := row_len { t with at_ := at_ }
 have hlt := (List.getElem?_eq_some_iff.1 hb).1
 have key := Keep.mk (((Ext.push h t.row).trans (.push _ t.row)).put_new (Nat.le_refl _) ({ t with at_ := at_ } : Tk).row)
 have hk2 : CanApp n0 (((h.push t.row).push t.row).put h.boxes.length ({ t with at_ := at_ } : Tk).row) tok := hk
 have hk3 : CanApp 0 (((h.push t.row).push t.row).put h.boxes.length ({ t with at_ := at_ } : Tk).row) tok := hk.mono (Nat.zero_le _)
 refine call_ex rfl Tryz.func101 rfl ?_
 repeat' (first | simp (config := { maxSteps := 4000000 }) (disch := first | exact dZ | fail) only [goS, append_gt, append_gt_yes, plainEv, resultsEv, resultListEv, reduceIte, Nat.reduceEqDiff, goT, beq_self_eq_true, goH, goU, res44, row_cells, row_drop, row_take, valid_ev, fa82_1, fa82_2, fa43_3, cell31, cell32, put31, put32, row_at, build_tok, app_tok, *] | ((first | refine G_d ?_ ?_ | refine G_n ?_ ?_ | refine B_d ?_ ?_ | refine B_n ?_ ?_) <;> (intro _; try (exfalso; omega))) | refine run_draw (by kernel_rfl) ?_ | ((first | refine G_m ?_ ?_ | refine B_m ?_ ?_ | refine G_b ?_ ?_ | refine B_b ?_ ?_) <;> intro _))
 ·refine ⟨_, rfl, ?_, .free h.tn, ?_, ?_⟩
  ·exact ((((Mut.of_ext key.out hn).trans (Mut.app hk2)).trans (.put _ _ _ _)).trans (.put _ _ _ _))
  ·simp (disch := first | assumption | omega | (simp only [lenH]; omega) | fail) only [get_put_eq]
   rfl
  ·exact hk2.next (key.out.ok ho) (Nat.le_trans hn key.out.tn)
end Go.Proofs.YtmdakolcndpjeaaGreatDoor
end

section
namespace Go.Proofs.YtmdakolcndpjeaaGreatDoor
open Go.AE Go.Lex
structure Sc (b n0 : Nat) (src : List UInt8) (at_ : Nat) (tok : Tok) (sz : Nat) (l : List Tk) (h : Heap) : Prop where
 box : h.boxes[b]? = some [.v (.string (bs src)), .v (.int .i64 at_), .list tok sz (toks l)]
 le : at_ ≤ src.length
 len : src.length ≤ 65536
 tn : n0 ≤ h.tn
 can : CanApp n0 h tok
 size : sz = 4 ∨ (l = [] ∧ tok = .nil)
 ok : okHeap h = true
 few : l.length ≤ at_
def Moved (f b n0 : Nat) (src : List UInt8) (at_ : Nat) (l : List Tk) (h : Heap) (n : Nat) (new : List Tk) : Prop :=
 ∃ h', W.call f [.ptr (.box b) 0] h = some (.ret (.tuple []), h') ∧ Mut b n0 h h' ∧ ∃ tok sz, h'.boxes[b]? = some (scan src (at_ + n) tok sz (l ++ new)) ∧ CanApp n0 h' tok ∧ (sz = 4 ∨ (l ++ new = [] ∧ tok = .nil))
def Fell (f b n0 : Nat) (at_ : Nat) (h : Heap) : Prop := ∃ h', W.call f [.ptr (.box b) 0] h = some (.panic (.iface 75 (.v (.int .i64 at_))), h') ∧ Mut b n0 h h'

section
variable {b n0 : Nat} {src : List UInt8} {at_ : Nat} {tok : Tok} {sz : Nat} {l : List Tk} {h : Heap}
theorem Sc.add_ok (S : Sc b n0 src at_ tok sz l h) {text : List UInt8} {t : Tk} (hv : validB t = true) (hl : at_ + text.length ≤ src.length) :
 ∃ h', W.call 101 [.ptr (.box b) 0, .v (.string (bs text)), .agg t.row] h = some (.ret (.tuple []), h') ∧ Mut b n0 h h' ∧ ∃ tok', h'.boxes[b]? = some (scan src (at_ + text.length) tok' 4 (l ++ [{ t with at_ := at_ }])) ∧ CanApp n0 h' tok' := by
 have h1 := S.le; have h2 := S.len; have h3 := S.few
 exact YtmdakolcndpjeaaGreatDoor.add_ok b n0 src text at_ tok sz l t h S.box hv S.tn S.can S.size S.ok (by omega) (by omega)
theorem Sc.add_bad (S : Sc b n0 src at_ tok sz l h) {text : List UInt8} {t : Tk} (hv : validB t = false) :
 ∃ h', W.call 101 [.ptr (.box b) 0, .v (.string (bs text)), .agg t.row] h = some (.panic (.iface 75 (.v (.int .i64 at_))), h') ∧ Mut b n0 h h' :=
 YtmdakolcndpjeaaGreatDoor.add_bad b n0 src text at_ _ t h S.box hv S.tn
theorem Sc.run (S : Sc b n0 src at_ tok sz l h) {k : Tok} {cl : List Int} {p : UInt8 → Bool} (hp : (fun c => cl.contains (cls c)) = p) (hc : cl.length ≤ 6) :
 W.call 100 [.ptr (.box b) 0, .list k 1 (ints cl)] h = some (.ret (.v (.string (bs ((src.drop at_).takeWhile p)))), h) := by
 have h2 := S.len
 have := run_ev b src at_ _ k cl h S.box S.le (by omega) hc
 rw [hp] at this
 exact this
theorem Sc.tw (S : Sc b n0 src at_ tok sz l h) {p : UInt8 → Bool} : at_ + ((src.drop at_).takeWhile p).length ≤ src.length := by
 have h1 := S.le
 have := tw_len_le (p := p) (src.drop at_)
 simp at this
 omega

theorem ints_part : (fun c => ([2, 3, 5] : List Int).contains (cls c)) = partB := by
 funext c
 rw [part_of]
 simp only [List.contains_cons, List.contains_nil, Bool.or_false]
 apply cls_of c (P := fun x => (x == 2 || (x == 3 || x == 5)) = (decide (x = 2) || decide (x = 3) || decide (x = 5))) <;> intros <;> rfl
theorem ints_digit : (fun c => ([3] : List Int).contains (cls c)) = digit := by
 funext c
 simp only [List.contains_cons, List.contains_nil, Bool.or_false]
 have hd := letter_digit c
 apply cls_of c (P := fun x => (x == 3) = digit c) <;> intros <;> simp_all
theorem ints_white : (fun c => ([1] : List Int).contains (cls c)) = white := by
 funext c
 simp only [List.contains_cons, List.contains_nil, Bool.or_false]
 have hw := white_not c
 have hl : letter c = true → white c = false := fun q => (letter_not c q).2.1
 have hd : digit c = true → white c = false := fun q => (digit_not c q).2.1
 have h95 : c.toNat = 95 → white c = false := fun q => by simp [white, q]
 apply cls_of c (P := fun x => (x == 1) = white c) <;> intros <;> simp_all
theorem build_i3 : buildSliceEv Tryz.prog 170 3 [(0, .v (.int .i64 2)), (1, .v (.int .i64 3)), (2, .v (.int .i64 5))] = some (.list .tight 1 (ints [2, 3, 5])) := by kernel_rfl
theorem build_i1 (n : Int) : buildSliceEv Tryz.prog 170 1 [(0, .v (.int .i64 n))] = some (.list .tight 1 (ints [n])) := by kernel_rfl
theorem build_name (s : ByteArray) (k : Int) : buildEv Tryz.prog 43 [(0, .v (.int .i64 k)), (1, .v (.string s))] = some (.agg [.v (.int .i64 k), .v (.string s), .v (.int .i64 0), .v (.int .i64 0)]) := by kernel_rfl
theorem build_num (k n : Int) : buildEv Tryz.prog 43 [(0, .v (.int .i64 k)), (2, .v (.int .i64 n))] = some (.agg [.v (.int .i64 k), .v (.string (bs [])), .v (.int .i64 n), .v (.int .i64 0)]) := by kernel_rfl

theorem res25 : Tryz.f38.results.toList = [] := by kernel_rfl
theorem res26 : Tryz.f39.results.toList = [] := by kernel_rfl
theorem res27 : Tryz.f40.results.toList = [] := by kernel_rfl
theorem res28 : Tryz.f41.results.toList = [] := by kernel_rfl
theorem res29 : Tryz.f42.results.toList = [] := by kernel_rfl
theorem wrong_ev (S : Sc b n0 src at_ tok sz l h) : Fell 38 b n0 at_ h := by
 have u9 := Tryz.underlying9; have u39 := Tryz.underlying39; have a3 := ag3; have a9 := ag9; have i42 := ii42
 have hb := S.box
 refine call_ex rfl Tryz.func38 rfl ?_
 repeat' (first | simp (config := { maxSteps := 4000000 }) (disch := first | exact dZ | fail) only [goS, append_gt, append_gt_yes, plainEv, resultsEv, resultListEv, reduceIte, Nat.reduceEqDiff, goT, beq_self_eq_true, goH, goU, res25, fa82_1, cell31, *] | ((first | refine G_d ?_ ?_ | refine G_n ?_ ?_ | refine B_d ?_ ?_ | refine B_n ?_ ?_) <;> (intro _; try (exfalso; omega))) | refine run_draw (by kernel_rfl) ?_ | ((first | refine G_m ?_ ?_ | refine B_m ?_ ?_ | refine G_b ?_ ?_ | refine B_b ?_ ?_) <;> intro _))
 exact ⟨_, rfl, .refl _ _ _⟩
theorem name_bad (S : Sc b n0 src at_ tok sz l h) (hv : nameB ((src.drop at_).takeWhile partB) = false) : Fell 40 b n0 at_ h := by
 have hb := S.box
 have r1 := S.run (k := .tight) ints_part (by decide)
 obtain ⟨h', r2, r3⟩ := S.add_bad (text := (src.drop at_).takeWhile partB) (t := ⟨1, (src.drop at_).takeWhile partB, 0, 0⟩) (by simp [validB, hv])
 simp only [Tk.row] at r2
 have r4 := Keep.mk r3
 clear r3
 refine call_ex rfl Tryz.func40 rfl ?_
 repeat' (first | simp (config := { maxSteps := 4000000 }) (disch := first | exact dZ | fail) only [goS, append_gt, append_gt_yes, plainEv, resultsEv, resultListEv, reduceIte, Nat.reduceEqDiff, goT, beq_self_eq_true, goH, goU, res27, build_i3, build_name, *] | ((first | refine G_d ?_ ?_ | refine G_n ?_ ?_ | refine B_d ?_ ?_ | refine B_n ?_ ?_) <;> (intro _; try (exfalso; omega))) | refine run_draw (by kernel_rfl) ?_ | ((first | refine G_m ?_ ?_ | refine B_m ?_ ?_ | refine G_b ?_ ?_ | refine B_b ?_ ?_) <;> intro _))
 exact ⟨_, rfl, r4.out⟩
theorem name_ok (S : Sc b n0 src at_ tok sz l h) (hv : nameB ((src.drop at_).takeWhile partB) = true) :
 Moved 40 b n0 src at_ l h ((src.drop at_).takeWhile partB).length [⟨1, (src.drop at_).takeWhile partB, 0, at_⟩] := by
 have hb := S.box
 have r1 := S.run (k := .tight) ints_part (by decide)
 obtain ⟨h', r2, r3, tok', r5, r6⟩ := S.add_ok (text := (src.drop at_).takeWhile partB) (t := ⟨1, (src.drop at_).takeWhile partB, 0, 0⟩) (by simp [validB, hv]) S.tw
 simp only [Tk.row] at r2
 have r4 := Keep.mk r3
 have r7 := Keep.mk r5
 have r8 := Keep.mk r6
 clear r3 r5 r6
 refine call_ex rfl Tryz.func40 rfl ?_
 repeat' (first | simp (config := { maxSteps := 4000000 }) (disch := first | exact dZ | fail) only [goS, append_gt, append_gt_yes, plainEv, resultsEv, resultListEv, reduceIte, Nat.reduceEqDiff, goT, beq_self_eq_true, goH, goU, res27, build_i3, build_name, *] | ((first | refine G_d ?_ ?_ | refine G_n ?_ ?_ | refine B_d ?_ ?_ | refine B_n ?_ ?_) <;> (intro _; try (exfalso; omega))) | refine run_draw (by kernel_rfl) ?_ | ((first | refine G_m ?_ ?_ | refine B_m ?_ ?_ | refine G_b ?_ ?_ | refine B_b ?_ ?_) <;> intro _))
 exact ⟨_, rfl, r4.out, tok', 4, r7.out, r8.out, .inl rfl⟩
theorem spaceM_ev (S : Sc b n0 src at_ tok sz l h) : Moved 39 b n0 src at_ l h ((src.drop at_).takeWhile white).length [] := by
 have u9 := Tryz.underlying9; have u39 := Tryz.underlying39; have a3 := ag3; have a9 := ag9; have s3 := sz3
 have hb := S.box
 have hlt := (List.getElem?_eq_some_iff.1 hb).1
 have r1 := S.run (k := .tight) ints_white (by decide)
 have r2 := S.tw (p := white)
 have r3 := S.len
 have r4 := Keep.mk S
 refine call_ex rfl Tryz.func39 rfl ?_
 refine run_draw_but [(3, 6)] (by kernel_rfl) ?_ ?_
 ·intro p hp
  simp only [List.mem_singleton] at hp
  subst hp
  refine stable_before (x := .ptr (.box b) 1) (v := .v (.int .i64 at_)) (by kernel_rfl) rfl rfl rfl (by kernel_rfl) (by simp [sameAV, sameV]) ?_ ?_
  ·simp only [List.take_succ_cons, List.take_zero]
   repeat' (first | simp (config := { maxSteps := 4000000 }) (disch := first | exact dZ | fail) only [goS, append_gt, append_gt_yes, plainEv, resultsEv, resultListEv, reduceIte, Nat.reduceEqDiff, goT, beq_self_eq_true, goH, goU, fa82_1, cell31, build_i1, *] | ((first | refine G_d ?_ ?_ | refine G_n ?_ ?_ | refine B_d ?_ ?_ | refine B_n ?_ ?_) <;> (intro _; try (exfalso; omega))) | refine run_draw (by kernel_rfl) ?_ | ((first | refine G_m ?_ ?_ | refine B_m ?_ ?_ | refine G_b ?_ ?_ | refine B_b ?_ ?_) <;> intro _))
   simp only [and_self]
  ·simp only [List.take_succ_cons, List.take_zero]
   repeat' (first | simp (config := { maxSteps := 4000000 }) (disch := first | exact dZ | fail) only [goS, append_gt, append_gt_yes, plainEv, resultsEv, resultListEv, reduceIte, Nat.reduceEqDiff, goT, beq_self_eq_true, goH, goU, fa82_1, cell31, build_i1, *] | ((first | refine G_d ?_ ?_ | refine G_n ?_ ?_ | refine B_d ?_ ?_ | refine B_n ?_ ?_) <;> (intro _; try (exfalso; omega))) | refine run_draw (by kernel_rfl) ?_ | ((first | refine G_m ?_ ?_ | refine B_m ?_ ?_ | refine G_b ?_ ?_ | refine B_b ?_ ?_) <;> intro _))
   simp only [and_self]
 ·repeat' (first | simp (config := { maxSteps := 4000000 }) (disch := first | exact dZ | fail) only [goS, append_gt, append_gt_yes, plainEv, resultsEv, resultListEv, reduceIte, Nat.reduceEqDiff, goT, beq_self_eq_true, goH, goU, res26, fa82_1, cell31, put31, build_i1, *] | ((first | refine G_d ?_ ?_ | refine G_n ?_ ?_ | refine B_d ?_ ?_ | refine B_n ?_ ?_) <;> (intro _; try (exfalso; omega))) | refine run_draw (by kernel_rfl) ?_ | ((first | refine G_m ?_ ?_ | refine B_m ?_ ?_ | refine G_b ?_ ?_ | refine B_b ?_ ?_) <;> intro _))
  refine ⟨_, rfl, .put _ _ _ _, tok, sz, ?_, r4.out.can, ?_⟩
  ·rw [get_put_eq hlt]; (try rw [List.append_nil]); rfl
  ·(try rw [List.append_nil]); exact r4.out.size
end
end Go.Proofs.YtmdakolcndpjeaaGreatDoor
end

section
namespace Go.Proofs.YtmdakolcndpjeaaGreatDoor
open Go.AE Go.Lex
theorem num_ge : ∀ (t : List UInt8) (n : Nat), n ≤ num t n := by
 intro t
 induction t with
 | nil => intro n; exact Nat.le_refl _
 | cons b t ih => intro n; exact Nat.le_trans (by omega) (ih _)
theorem parse_num : ∀ (t : List UInt8) (acc : Nat), t.all digit = true → acc < 18446744073709551616 →
 Lib.parseUint10 acc t = if num t acc < 18446744073709551616 then .ok (num t acc) else .range := by
 intro t
 induction t with
 | nil =>
  intro acc _ h
  have e : num [] acc = acc := rfl
  rw [e, if_pos h]
  rfl
 | cons b t ih =>
  intro acc ht h
  simp only [List.all_cons, Bool.and_eq_true] at ht
  have hd : 48 ≤ b.toNat ∧ b.toNat ≤ 57 := by simpa [digit] using ht.1
  have hg := num_ge t (10 * acc + (b.toNat - 48))
  have e : num (b :: t) acc = num t (10 * acc + (b.toNat - 48)) := rfl
  rw [e]
  unfold Lib.parseUint10
  rw [if_pos hd]
  split
  ·rw [if_neg (by omega)]
  ·split
   ·rw [if_neg (by omega)]
   ·rw [ih _ ht.2 (by omega), Nat.mul_comm acc 10]
theorem atoi_num {t : List UInt8} (ht : t.all digit = true) (hne : t ≠ []) : Lib.atoiAll t = if num t 0 < 9223372036854775808 then .ok (num t 0) else .range := by
 cases t with
 | nil => exact absurd rfl hne
 | cons b t =>
  have hd : 48 ≤ b.toNat ∧ b.toNat ≤ 57 := by simp [digit] at ht; exact ht.1
  rw [Lib.atoiAll_plain b t (by omega) (by omega)]
  have : Lib.parseMag (b :: t) = Lib.parseUint10 0 (b :: t) := by unfold Lib.parseMag; rw [if_neg (by simp)]
  rw [this, parse_num (b :: t) 0 ht (by omega)]
  by_cases h1 : num (b :: t) 0 < 9223372036854775808
  ·rw [if_pos h1, if_pos (by omega)]
   simp only [Lib.signless]
   rw [if_neg (by omega)]
  ·rw [if_neg h1]
   by_cases h2 : num (b :: t) 0 < 18446744073709551616
   ·rw [if_pos h2]
    simp only [Lib.signless]
    rw [if_pos (by omega)]
   ·rw [if_neg h2]
    rfl
theorem atoi_ok {t : List UInt8} (ht : t.all digit = true) (hne : t ≠ []) (hl : t.length ≤ 281474976710656) (hn : num t 0 < 9223372036854775808) (h : Heap) : W.call 102 [.v (.string (bs t))] h = some (.ret (.tuple [.v (.int .i64 (num t 0)), .v .nilIface]), h) := by
 rw [whole_call]
 show (pAtoi _ _).map _ = _
 unfold pAtoi
 have ha : Lib.atoiAll (bs t).data.toList = .ok (num t 0) := by rw [bs_data, atoi_num ht hne, if_pos hn]
 dsimp only
 rw [if_pos (show (bs t).size ≤ 281474976710656 from hl), ha]
 rfl
theorem atoi_bad {t : List UInt8} (ht : t.all digit = true) (hne : t ≠ []) (hl : t.length ≤ 281474976710656) (hn : ¬ num t 0 < 9223372036854775808) (h : Heap) : W.call 102 [.v (.string (bs t))] h = some (.ret (.tuple [.v (.int .i64 (Lib.atoiSat t)), .iface 182 .bad]), h) := by
 rw [whole_call]
 show (pAtoi _ _).map _ = _
 unfold pAtoi
 have ha : Lib.atoiAll (bs t).data.toList = .range := by rw [bs_data, atoi_num ht hne, if_neg hn]
 dsimp only
 rw [if_pos (show (bs t).size ≤ 281474976710656 from hl), ha]
 rfl
theorem ii61 : isIface Tryz.prog 135 = some true := by kernel_rfl
section
variable {b n0 : Nat} {src : List UInt8} {at_ : Nat} {tok : Tok} {sz : Nat} {l : List Tk} {h : Heap}
theorem number_bad (S : Sc b n0 src at_ tok sz l h) (hne : (src.drop at_).takeWhile digit ≠ []) (hv : numOk ((src.drop at_).takeWhile digit) = false) : Fell 41 b n0 at_ h := by
 have hb := S.box
 have i42 := ii42; have i61 := ii61; have a3 := ag3
 have u61 := Tryz.underlying135
 have r1 := S.run (k := .tight) ints_digit (by decide)
 have hall := tw_allp (p := digit) (src.drop at_)
 have hlen := S.tw (p := digit)
 have hl2 := S.len
 generalize (src.drop at_).takeWhile digit = T at *
 by_cases hn : num T 0 < 9223372036854775808
 ·have ha := fun h => atoi_ok hall hne (by omega) hn h
  have hi := itoa_ev (num T 0) (by omega) 
  have q := Keep.mk hv
  by_cases hd : Lib.decDigits (num T 0) = T
  ·have hbig : ¬ num T 0 ≤ 1099511627776 := by
    intro hq
    simp [numOk, hq, hd] at hv
   obtain ⟨h', r2, r3⟩ := S.add_bad (text := T) (t := ⟨2, [], num T 0, 0⟩) (by simp [validB]; omega)
   simp only [Tk.row] at r2
   have r4 := Keep.mk r3
   clear r3 hv hall hne
   refine call_ex rfl Tryz.func41 rfl ?_
   repeat' (first | simp (config := { maxSteps := 4000000 }) (disch := first | exact dZ | fail) only [goS, append_gt, append_gt_yes, plainEv, resultsEv, resultListEv, reduceIte, Nat.reduceEqDiff, goT, beq_self_eq_true, goH, goU, res28, build_i1, build_num, bin_nil_neq, *] | ((first | refine G_d ?_ ?_ | refine G_n ?_ ?_ | refine B_d ?_ ?_ | refine B_n ?_ ?_) <;> (intro _; try (exfalso; omega))) | refine run_draw (by kernel_rfl) ?_ | ((first | refine G_m ?_ ?_ | refine B_m ?_ ?_ | refine G_b ?_ ?_ | refine B_b ?_ ?_) <;> intro _))
   exact ⟨_, rfl, r4.out⟩
  ·clear hv hall hne
   refine call_ex rfl Tryz.func41 rfl ?_
   repeat' (first | simp (config := { maxSteps := 4000000 }) (disch := first | exact dZ | fail) only [goS, append_gt, append_gt_yes, plainEv, resultsEv, resultListEv, reduceIte, Nat.reduceEqDiff, goT, beq_self_eq_true, goH, goU, res28, build_i1, build_num, bin_nil_neq, fa82_1, cell31, *] | ((first | refine G_d ?_ ?_ | refine G_n ?_ ?_ | refine B_d ?_ ?_ | refine B_n ?_ ?_) <;> (intro _; try (exfalso; omega))) | refine run_draw (by kernel_rfl) ?_ | ((first | refine G_m ?_ ?_ | refine B_m ?_ ?_ | refine G_b ?_ ?_ | refine B_b ?_ ?_) <;> intro _))
   exact ⟨_, rfl, .refl _ _ _⟩
 ·have ha := fun h => atoi_bad hall hne (by omega) hn h
  clear hv hall hne
  refine call_ex rfl Tryz.func41 rfl ?_
  repeat' (first | simp (config := { maxSteps := 4000000 }) (disch := first | exact dZ | fail) only [goS, append_gt, append_gt_yes, plainEv, resultsEv, resultListEv, reduceIte, Nat.reduceEqDiff, goT, beq_self_eq_true, goH, goU, res28, build_i1, build_num, bin_iface_neq, fa82_1, cell31, *] | ((first | refine G_d ?_ ?_ | refine G_n ?_ ?_ | refine B_d ?_ ?_ | refine B_n ?_ ?_) <;> (intro _; try (exfalso; omega))) | refine run_draw (by kernel_rfl) ?_ | ((first | refine G_m ?_ ?_ | refine B_m ?_ ?_ | refine G_b ?_ ?_ | refine B_b ?_ ?_) <;> intro _))
  exact ⟨_, rfl, .refl _ _ _⟩
theorem number_ok (S : Sc b n0 src at_ tok sz l h) (hne : (src.drop at_).takeWhile digit ≠ []) (hv : numOk ((src.drop at_).takeWhile digit) = true) :
 Moved 41 b n0 src at_ l h ((src.drop at_).takeWhile digit).length [⟨2, [], num ((src.drop at_).takeWhile digit) 0, at_⟩] := by
 have hb := S.box
 have u61 := Tryz.underlying135
 have r1 := S.run (k := .tight) ints_digit (by decide)
 have hall := tw_allp (p := digit) (src.drop at_)
 have hlen := S.tw (p := digit)
 have hl2 := S.len
 generalize (src.drop at_).takeWhile digit = T at *
 simp [numOk] at hv
 obtain ⟨hn, hd⟩ := hv
 have ha := fun h => atoi_ok hall hne (by omega) (by omega) h
 have hi := itoa_ev (num T 0) (by omega) 
 obtain ⟨h', r2, r3, tok', r5, r6⟩ := S.add_ok (text := T) (t := ⟨2, [], num T 0, 0⟩) (by simp [validB]; omega) hlen
 simp only [Tk.row] at r2
 have r4 := Keep.mk r3
 have r7 := Keep.mk r5
 have r8 := Keep.mk r6
 clear r3 r5 r6 hall hne
 refine call_ex rfl Tryz.func41 rfl ?_
 repeat' (first | simp (config := { maxSteps := 4000000 }) (disch := first | exact dZ | fail) only [goS, append_gt, append_gt_yes, plainEv, resultsEv, resultListEv, reduceIte, Nat.reduceEqDiff, goT, beq_self_eq_true, goH, goU, res28, build_i1, build_num, bin_nil_neq, *] | ((first | refine G_d ?_ ?_ | refine G_n ?_ ?_ | refine B_d ?_ ?_ | refine B_n ?_ ?_) <;> (intro _; try (exfalso; omega))) | refine run_draw (by kernel_rfl) ?_ | ((first | refine G_m ?_ ?_ | refine B_m ?_ ?_ | refine G_b ?_ ?_ | refine B_b ?_ ?_) <;> intro _))
 exact ⟨_, rfl, r4.out, tok', 4, r7.out, r8.out, .inl rfl⟩
theorem ev46 (l p : List UInt8) (h : Heap) : W.call 19 [.v (.string (bs l)), .v (.string (bs p))] h = some (.ret (.v (.bool (Lib.hasPrefix l p))), h) := by
 rw [whole_call]; rfl
theorem index_tw : ∀ (s : List UInt8), Lib.indexByte s 10 = if 10 ∈ s then (((s.takeWhile (fun b => b != 10)).length : Nat) : Int) else -1 := by
 intro s
 induction s with
 | nil => simp [Lib.indexByte]
 | cons c s ih =>
  unfold Lib.indexByte
  by_cases hc : c = 10
  ·subst hc; simp
  ·have h1 : (c == 10) = false := by simpa using hc
   have h2 : (c != 10) = true := by simp [hc]
   have hne : ¬ (10 = c) := fun q => hc q.symm
   rw [ih, List.takeWhile_cons, if_pos h2]
   simp only [h1, Bool.false_eq_true, if_false, List.mem_cons, hne, false_or, List.length_cons]
   by_cases h10 : 10 ∈ s
   ·simp only [h10, if_true]
    have : ¬ ((((s.takeWhile (fun b => b != 10)).length : Nat) : Int) = -1) := by omega
    simp [this]
   ·simp [h10]
theorem ev47n (s : List UInt8) (h : Heap) : W.call 103 [.v (.string (bs s)), .v (.int .u8 10)] h = some (.ret (.v (.int .i64 (if 10 ∈ s then (((s.takeWhile (fun b => b != 10)).length : Nat) : Int) else -1))), h) := by
 rw [ev47, ← index_tw]; rfl
theorem tw_no10 {s : List UInt8} (h : ¬ 10 ∈ s) : s.takeWhile (fun b => b != 10) = s := by
 apply tw_all
 rw [List.all_eq_true]
 intro x hx
 have : x ≠ 10 := by rintro rfl; exact h hx
 simpa using this
theorem note_ev (S : Sc b n0 src at_ tok sz l h) (hc : Lib.hasPrefix (src.drop at_) [47, 47] = true) : Moved 42 b n0 src at_ l h ((src.drop at_).takeWhile (fun b => b != 10)).length [] := by
 have u9 := Tryz.underlying9; have u39 := Tryz.underlying39; have a3 := ag3; have a9 := ag9; have s3 := sz3
 have hb := S.box
 have hlt := (List.getElem?_eq_some_iff.1 hb).1
 have hle := S.le; have hlen := S.len
 have r2 := S.tw (p := fun b => b != 10)
 have r4 := Keep.mk S
 refine call_ex rfl Tryz.func42 rfl ?_
 by_cases h10 : 10 ∈ src.drop at_
 ·have ei := fun h => (ev47n (src.drop at_) h)
  rw [if_pos h10] at ei
  repeat' (first | simp (config := { maxSteps := 4000000 }) (disch := first | exact dZ | fail) only [goS, append_gt, append_gt_yes, plainEv, resultsEv, resultListEv, reduceIte, Nat.reduceEqDiff, goT, beq_self_eq_true, goH, goU, res29, fa82_0, fa82_1, cell30, cell31, put31, ev46, *] | ((first | refine G_d ?_ ?_ | refine G_n ?_ ?_ | refine B_d ?_ ?_ | refine B_n ?_ ?_) <;> (intro _; try (exfalso; omega))) | refine run_draw (by kernel_rfl) ?_ | ((first | refine G_m ?_ ?_ | refine B_m ?_ ?_ | refine G_b ?_ ?_ | refine B_b ?_ ?_) <;> intro _))
  refine ⟨_, rfl, .put _ _ _ _, tok, sz, ?_, r4.out.can, ?_⟩
  ·rw [get_put_eq hlt]; (try rw [List.append_nil]); rfl
  ·(try rw [List.append_nil]); exact r4.out.size
 ·have ei := fun h => (ev47n (src.drop at_) h)
  rw [if_neg h10] at ei
  have hq := Keep.mk (tw_no10 h10)
  repeat' (first | simp (config := { maxSteps := 4000000 }) (disch := first | exact dZ | fail) only [goS, append_gt, append_gt_yes, plainEv, resultsEv, resultListEv, reduceIte, Nat.reduceEqDiff, goT, beq_self_eq_true, goH, goU, res29, fa82_0, fa82_1, cell30, cell31, put31, ev46, *] | ((first | refine G_d ?_ ?_ | refine G_n ?_ ?_ | refine B_d ?_ ?_ | refine B_n ?_ ?_) <;> (intro _; try (exfalso; omega))) | refine run_draw (by kernel_rfl) ?_ | ((first | refine G_m ?_ ?_ | refine B_m ?_ ?_ | refine G_b ?_ ?_ | refine B_b ?_ ?_) <;> intro _))
  refine ⟨_, rfl, .put _ _ _ _, tok, sz, ?_, r4.out.can, ?_⟩
  ·rw [get_put_eq hlt, hq.out, List.length_drop]; (try rw [List.append_nil])
   have : at_ + (src.length - at_) = src.length := by omega
   rw [this]; rfl
  ·(try rw [List.append_nil]); exact r4.out.size
theorem signM_ok (S : Sc b n0 src at_ tok sz l h) (hlt2 : at_ < src.length) (hc : Lib.hasPrefix (src.drop at_) [47, 47] = false) (hv : isSign (src.getD at_ 0) = true) : Moved 42 b n0 src at_ l h 1 [⟨3, [src.getD at_ 0], 0, at_⟩] := by
 have u9 := Tryz.underlying9; have u39 := Tryz.underlying39; have a3 := ag3; have a9 := ag9; have s3 := sz3
 have hb := S.box
 have hlt := (List.getElem?_eq_some_iff.1 hb).1
 have hle := S.le; have hlen := S.len
 have hone : (src.take (at_ + 1)).drop at_ = [src.getD at_ 0] := by
  rw [List.take_succ_eq_append_getElem hlt2, List.drop_append_of_le_length (by simp; omega)]
  simp [hlt2]
 obtain ⟨h', r2, r3, tok', r5, r6⟩ := S.add_ok (text := [src.getD at_ 0]) (t := ⟨3, [src.getD at_ 0], 0, 0⟩) (by simp [validB] at hv ⊢; exact hv) (by simp; omega)
 simp only [Tk.row] at r2
 have r4 := Keep.mk r3
 have r7 := Keep.mk r5
 have r8 := Keep.mk r6
 clear r3 r5 r6
 have e1 : ((at_ : Int) + 1).toNat = at_ + 1 := by omega
 refine call_ex rfl Tryz.func42 rfl ?_
 repeat' (first | simp (config := { maxSteps := 4000000 }) (disch := first | exact dZ | fail) only [goS, append_gt, append_gt_yes, plainEv, resultsEv, resultListEv, reduceIte, Nat.reduceEqDiff, goT, beq_self_eq_true, goH, goU, res29, fa82_0, fa82_1, cell30, cell31, put31, ev46, build_name, *] | ((first | refine G_d ?_ ?_ | refine G_n ?_ ?_ | refine B_d ?_ ?_ | refine B_n ?_ ?_) <;> (intro _; try (exfalso; omega))) | refine run_draw (by kernel_rfl) ?_ | ((first | refine G_m ?_ ?_ | refine B_m ?_ ?_ | refine G_b ?_ ?_ | refine B_b ?_ ?_) <;> intro _))
 exact ⟨_, rfl, r4.out, tok', 4, r7.out, r8.out, .inl rfl⟩
end
end Go.Proofs.YtmdakolcndpjeaaGreatDoor
end

section
namespace Go.Proofs.YtmdakolcndpjeaaGreatDoor
open Go.AE Go.Lex
theorem cell10 {a : AV} : (([a] : List AV).drop 0).head? = some a := rfl
theorem put10 {a z : AV} : splice [a] 0 [z] = [z] := rfl
theorem res24 : Tryz.f37.results.toList = [] := by kernel_rfl
theorem ag31 : isAggB Tryz.prog 31 = some false := by kernel_rfl
theorem sz31 : sizeB Tryz.prog 31 = some 1 := by kernel_rfl
theorem as42 (x : AV) : assertEv Tryz.prog (.iface 75 x) 75 false = some x := by kernel_rfl
theorem ii20 : isIface Tryz.prog 20 = some true := by kernel_rfl
def back (n : Nat) : List AV := [.ptr (.box n) 0, .ptr (.box (n + 1)) 0, .ptr (.box (n + 1 + 1)) 0]
theorem back_calm (n : Nat) (h : Heap) : W.dcall 37 (back n) none h = some (.ret (.tuple []), none, h) := by
 have u20 := Tryz.underlying20
 refine dcall_of_run Tryz.func37 rfl ?_
 unfold back
 repeat' (first | simp (config := { maxSteps := 4000000 }) (disch := first | exact dZ | fail) only [goS, append_gt, append_gt_yes, plainEv, resultsEv, resultListEv, reduceIte, Nat.reduceEqDiff, goT, beq_self_eq_true, goH, goU, res24, bin_nil_neq, and_self, *] | ((first | refine G_d ?_ ?_ | refine G_n ?_ ?_ | refine B_d ?_ ?_ | refine B_n ?_ ?_) <;> (intro _; try (exfalso; omega))) | refine run_draw (by kernel_rfl) ?_ | ((first | refine G_m ?_ ?_ | refine B_m ?_ ?_ | refine G_b ?_ ?_ | refine B_b ?_ ?_) <;> intro _))
theorem back_saved (n : Nat) (h : Heap) (p : Int) {x y z : AV} (h0 : h.boxes[n]? = some [x]) (h1 : h.boxes[n + 1]? = some [y]) (h2 : h.boxes[n + 1 + 1]? = some [z]) :
 W.dcall 37 (back n) (some (.iface 75 (.v (.int .i64 p)), false)) h =
  some (.ret (.tuple []), some (.iface 75 (.v (.int .i64 p)), true), ((h.put n [.list .nil 0 []]).put (n + 1) [.v (.int .i64 p)]).put (n + 1 + 1) [.v (.int .i64 30)]) := by
 have u20 := Tryz.underlying20
 have i20 := ii20
 have s23 := sz39; have s24 := sz31; have s3 := sz3
 refine dcall_of_run Tryz.func37 rfl ?_
 unfold back
 repeat' (first | simp (config := { maxSteps := 4000000 }) (disch := first | exact dZ | fail) only [goS, append_gt, append_gt_yes, plainEv, resultsEv, resultListEv, reduceIte, Nat.reduceEqDiff, goT, beq_self_eq_true, goH, goU, res24, bin_iface_neq, as42, put10, and_self, *] | ((first | refine G_d ?_ ?_ | refine G_n ?_ ?_ | refine B_d ?_ ?_ | refine B_n ?_ ?_) <;> (intro _; try (exfalso; omega))) | refine run_draw (by kernel_rfl) ?_ | ((first | refine G_m ?_ ?_ | refine B_m ?_ ?_ | refine G_b ?_ ?_ | refine B_b ?_ ?_) <;> intro _))
 all_goals trace_state

def doF (c : Int) : Nat := if c = 1 then 39 else if c = 2 then 40 else if c = 3 then 41 else if c = 4 then 42 else 38
def doL : List AV := [.func (.func 38) [] [], .func (.func 39) [] [], .func (.func 40) [] [], .func (.func 41) [] [], .func (.func 42) [] [], .func (.func 38) [] []]
theorem do_get (b : UInt8) : (doL.drop (cls b).toNat).head? = some (.func (.func (doF (cls b))) [] []) := by
 apply cls_of b (P := fun c => (doL.drop c.toNat).head? = some (.func (.func (doF c)) [] [])) <;> intros <;> rfl
theorem cls_range (b : UInt8) : 0 ≤ cls b ∧ cls b < 6 := by
 apply cls_of b (P := fun c => 0 ≤ c ∧ c < 6) <;> intros <;> decide
def ahead (new : List Tk) : Out → Out
 | .ok m => .ok (new ++ m)
 | .wrong k => .wrong k
theorem ahead_nil (x : Out) : ahead [] x = x := by cases x <;> rfl
theorem ahead_ahead (a b : List Tk) (x : Out) : ahead a (ahead b x) = ahead (a ++ b) x := by cases x <;> simp [ahead]
theorem add_ahead (x : Out) (k : Nat) (a : Int) (t : List UInt8) (n : Int) : x.add (some (a, t, n)) k = ahead [⟨a, t, n, k⟩] x := by cases x <;> rfl
theorem add_none (x : Out) (k : Nat) : x.add none k = x := by cases x <;> rfl
theorem lex_whites : ∀ (s : List UInt8) (k : Nat), lexR s k = lexR (s.drop (s.takeWhile white).length) (k + (s.takeWhile white).length) := by
 intro s
 induction s with
 | nil => intro k; rfl
 | cons c s ih =>
  intro k
  rw [List.takeWhile_cons]
  by_cases hc : white c = true
  ·rw [if_pos hc, lex_white hc, ih (k + 1), List.length_cons, List.drop_succ_cons]
   congr 1
   omega
  ·rw [if_neg hc]
   rfl
theorem prefix_note (c : UInt8) (r : List UInt8) : Lib.hasPrefix (c :: r) [47, 47] = true ↔ c = 47 ∧ r.head? = some 47 := by
 unfold Lib.hasPrefix
 cases r with
 | nil => simp [List.isPrefixOf]
 | cons d r =>
  simp [List.isPrefixOf]
  exact ⟨fun q => ⟨q.1.symm, q.2.symm⟩, fun q => ⟨q.1.symm, q.2.symm⟩⟩
section
variable {b n0 : Nat} {src : List UInt8} {at_ : Nat} {tok : Tok} {sz : Nat} {l : List Tk} {h : Heap}
theorem drop_step {n : Nat} (hlt : at_ < src.length) (hn : 1 ≤ n) : (src.drop (at_ + 1)).drop (n - 1) = src.drop (at_ + n) := by
 rw [List.drop_drop]
 congr 1
 omega
theorem scan_step (S : Sc b n0 src at_ tok sz l h) (hlt : at_ < src.length) :
 (∃ n new, 1 ≤ n ∧ at_ + n ≤ src.length ∧ Moved (doF (cls (src.getD at_ 0))) b n0 src at_ l h n new ∧ lexR (src.drop at_) at_ = ahead new (lexR (src.drop (at_ + n)) (at_ + n)) ∧ new.length ≤ n) ∨
 (Fell (doF (cls (src.getD at_ 0))) b n0 at_ h ∧ lexR (src.drop at_) at_ = .wrong at_) := by
 have hd := getD_drop hlt
 have main : ∀ n o, stepB (src.getD at_ 0) (src.drop (at_ + 1)) = some (n, o) → lexR (src.drop at_) at_ = (lexR (src.drop (at_ + n)) (at_ + n)).add o at_ := by
  intro n o hs
  have hn := stepB_len hs
  rw [hd, lexR_some hs, drop_step hlt hn.1]
 have bad : stepB (src.getD at_ 0) (src.drop (at_ + 1)) = none → lexR (src.drop at_) at_ = .wrong at_ := by
  intro hs
  rw [hd, lexR_none hs]
 have hw := S.tw (p := white)
 have hp := S.tw (p := partB)
 have hdg := S.tw (p := digit)
 have hnt := S.tw (p := fun b => b != 10)
 generalize hc : src.getD at_ 0 = c at *
 by_cases w : white c = true
 ·have hcl : cls c = 1 := by
   have h1 := white_not c w
   have h2 : letter c = false := by
    cases h3 : letter c with
    | false => rfl
    | true => have := (letter_not c h3).2.1; rw [w] at this; cases this
   unfold cls
   simp [h2, h1.2.1, w]
   intro h95
   simp [white, h95] at w
  rw [hcl]
  refine .inl ⟨((src.drop at_).takeWhile white).length, [], ?_, hw, spaceM_ev S, ?_, by simp⟩
  ·rw [hd]; exact tw_cons_len w
  ·rw [ahead_nil, lex_whites, List.drop_drop]
 ·have w : white c = false := by simpa using w
  by_cases lt : letter c = true
  ·have hcl : cls c = 2 := by unfold cls; simp [lt]
   rw [hcl]
   have hn := letter_not c lt
   by_cases nb : nameB ((src.drop at_).takeWhile partB) = true
   ·have hs : stepB c (src.drop (at_ + 1)) = some (((src.drop at_).takeWhile partB).length, some (1, (src.drop at_).takeWhile partB, 0)) := by
     unfold stepB
     rw [if_neg (by rw [w]; decide), if_neg (fun q => hn.2.2.1 q.1), if_pos lt, ← hd, if_pos nb]
    refine .inl ⟨_, _, (stepB_len hs).1, hp, name_ok S nb, ?_, by simpa using (stepB_len hs).1⟩
    rw [main _ _ hs, add_ahead]
   ·have nb : nameB ((src.drop at_).takeWhile partB) = false := by simpa using nb
    refine .inr ⟨name_bad S nb, bad ?_⟩
    unfold stepB
    rw [if_neg (by rw [w]; decide), if_neg (fun q => hn.2.2.1 q.1), if_pos lt, ← hd, if_neg (by rw [nb]; decide)]
  ·have lt : letter c = false := by simpa using lt
   by_cases dg : digit c = true
   ·have hcl : cls c = 3 := by unfold cls; simp [lt, dg]
    rw [hcl]
    have hn := digit_not c dg
    have hne : (src.drop at_).takeWhile digit ≠ [] := by
     intro hq
     have := tw_cons_len (p := digit) (s := src.drop (at_ + 1)) dg
     rw [← hd, hq] at this
     cases this
    by_cases nb : numOk ((src.drop at_).takeWhile digit) = true
    ·have hs : stepB c (src.drop (at_ + 1)) = some (((src.drop at_).takeWhile digit).length, some (2, [], (num ((src.drop at_).takeWhile digit) 0 : Int))) := by
      unfold stepB
      rw [if_neg (by rw [w]; decide), if_neg (fun q => hn.2.2 q.1), if_neg (by rw [lt]; decide), if_pos dg, ← hd, if_pos nb]
     refine .inl ⟨_, _, (stepB_len hs).1, hdg, number_ok S hne nb, ?_, by simpa using (stepB_len hs).1⟩
     rw [main _ _ hs, add_ahead]
    ·have nb : numOk ((src.drop at_).takeWhile digit) = false := by simpa using nb
     refine .inr ⟨number_bad S hne nb, bad ?_⟩
     unfold stepB
     rw [if_neg (by rw [w]; decide), if_neg (fun q => hn.2.2 q.1), if_neg (by rw [lt]; decide), if_pos dg, ← hd, if_neg (by rw [nb]; decide)]
   ·have dg : digit c = false := by simpa using dg
    by_cases sg : isSign c = true
    ·have h95 := (sign_not c sg).2.2.1
     have hcl : cls c = 4 := by unfold cls; simp [lt, dg, h95, w, sg]
     rw [hcl]
     by_cases nt : c = 47 ∧ (src.drop (at_ + 1)).head? = some 47
     ·have hs : stepB c (src.drop (at_ + 1)) = some (((src.drop at_).takeWhile (fun b => b != 10)).length, none) := by
       unfold stepB
       rw [if_neg (by rw [w]; decide), if_pos nt, ← hd]
      refine .inl ⟨_, [], (stepB_len hs).1, hnt, note_ev S (by rw [hd]; exact (prefix_note _ _).2 nt), ?_, by simp⟩
      rw [main _ _ hs, add_none, ahead_nil]
     ·have hs : stepB c (src.drop (at_ + 1)) = some (1, some (3, [c], 0)) := by
       unfold stepB
       rw [if_neg (by rw [w]; decide), if_neg nt, if_neg (by rw [lt]; decide), if_neg (by rw [dg]; decide), if_pos sg]
      have hm := signM_ok S hlt (by
       rw [hd, Bool.eq_false_iff]
       intro hq
       exact nt ((prefix_note _ _).1 hq)) (by rw [hc]; exact sg)
      rw [hc] at hm
      refine .inl ⟨1, _, Nat.le_refl _, hlt, hm, ?_, by simp⟩
      rw [main _ _ hs, add_ahead]
    ·have sg : isSign c = false := by simpa using sg
     have hs : stepB c (src.drop (at_ + 1)) = none := by
      have n47 : c ≠ 47 := by rintro rfl; revert sg; decide
      unfold stepB
      rw [if_neg (by rw [w]; decide), if_neg (fun q => n47 q.1), if_neg (by rw [lt]; decide), if_neg (by rw [dg]; decide), if_neg (by rw [sg]; decide)]
     have hf : doF (cls c) = 38 := by
      unfold cls
      simp only [lt, dg, w, sg, Bool.false_eq_true, if_false]
      split <;> rfl
     rw [hf]
     exact .inr ⟨wrong_ev S, bad hs⟩
end
end Go.Proofs.YtmdakolcndpjeaaGreatDoor
end

section
namespace Go.Proofs.YtmdakolcndpjeaaGreatDoor
open Go.AE Go.Lex
def lexF (src : List UInt8) : List Tk × Int × Int :=
 if 65536 < src.length then ([], 0, 2) else
 match lexR src 0 with
 | .ok l => (l, 0, 0)
 | .wrong k => ([], (k : Int), 30)
def LexPost (src : List UInt8) (h : Heap) (r : Res) (h' : Heap) : Prop :=
 ∃ tok sz, r = .ret (.tuple [.list tok sz (toks (lexF src).1), .v (.int .i64 (lexF src).2.1), .v (.int .i64 (lexF src).2.2)]) ∧ Ext h h' ∧ CanApp h.tn h' tok ∧ (sz = 4 ∨ ((lexF src).1 = [] ∧ tok = .nil))
theorem zero39 : (zeroA Tryz.prog 39).bind AV.cellsO = some [.list .nil 0 []] := by kernel_rfl
theorem zero3 : (zeroA Tryz.prog 3).bind AV.cellsO = some [.v (.int .i64 0)] := by kernel_rfl
theorem zero31 : (zeroA Tryz.prog 31).bind AV.cellsO = some [.v (.int .i64 0)] := by kernel_rfl
def noF : List AV := [.v .nilFunc, .v .nilFunc, .v .nilFunc, .v .nilFunc, .v .nilFunc, .v .nilFunc]
theorem zero79 : (zeroA Tryz.prog 79).bind AV.cellsO = some noF := by kernel_rfl
theorem sz77 : sizeB Tryz.prog 77 = some 6 := by kernel_rfl
theorem build77 : buildEv Tryz.prog 77 [(0, .func (.func 38) [] []), (1, .func (.func 39) [] []), (2, .func (.func 40) [] []), (3, .func (.func 41) [] []), (4, .func (.func 42) [] []), (5, .func (.func 38) [] [])] = some (.agg doL) := by kernel_rfl
theorem store77 {h : Heap} {c : Nat} (hc : c = h.boxes.length) : storeEv Tryz.prog (h.push noF) 77 (.ptr (.box c) 0) (.agg doL) = some ((h.push noF).put c doL) := by
 subst hc
 rw [store_box (xs := doL) rfl sz77 (push_last h noF) rfl (by decide), show splice noF 0 doL = doL from rfl]
theorem fa79_0 (r : Ref) (off : Nat) : fieldAddrEv Tryz.prog 79 (.ptr r off) 0 = some (.ptr r (off + 0)) := by kernel_rfl
theorem build82 (s : ByteArray) : buildEv Tryz.prog 82 [(0, .v (.string s))] = some (.agg [.v (.string s), .v (.int .i64 0), .list .nil 0 []]) := by kernel_rfl
theorem cells82 (s : ByteArray) : (AV.agg [.v (.string s), .v (.int .i64 0), .list .nil 0 []]).cellsO = some [.v (.string s), .v (.int .i64 0), .list .nil 0 []] := rfl
theorem sz76 : sizeB Tryz.prog 76 = some 1 := by kernel_rfl
theorem ag76 : isAggB Tryz.prog 76 = some false := by kernel_rfl
theorem ia77 {b off : Nat} {i : Int} (h0 : 0 ≤ i) (h1 : i < 6) : indexAddrEv Tryz.prog 77 (.ptr (.box b) off) (.v (.int .i64 i)) = some (.ptr (.box b) (off + i.toNat)) := by
 have hu := Tryz.underlying77
 unfold indexAddrEv
 rw [hu]
 simp only [sz76]
 rw [if_pos ⟨h0, h1⟩, Nat.mul_one]
theorem res12 : Tryz.f16.results.toList = [.cell 2 39, .cell 3 3, .cell 4 31] := by kernel_rfl
theorem back_calm' (n : Nat) (h : Heap) : W.dcall 37 [.ptr (.box n) 0, .ptr (.box (n + 1)) 0, .ptr (.box (n + 1 + 1)) 0] none h = some (.ret (.tuple []), none, h) := back_calm n h
theorem len_push {h : Heap} {cs : List AV} : (h.push cs).boxes.length = h.boxes.length + 1 := push_len h cs
theorem len_put {h : Heap} {b : Nat} {cs : List AV} : (h.put b cs).boxes.length = h.boxes.length := put_len h b cs
structure LInv (src : List UInt8) (h : Heap) (at_ : Nat) (tok : Tok) (sz : Nat) (l : List Tk) (h' : Heap) : Prop where
 ext : Ext h h'
 b0 : h'.boxes[h.boxes.length]? = some [.list .nil 0 []]
 b1 : h'.boxes[h.boxes.length + 1]? = some [.v (.int .i64 0)]
 b2 : h'.boxes[h.boxes.length + 1 + 1]? = some [.v (.int .i64 0)]
 b3 : h'.boxes[h.boxes.length + 1 + 1 + 1]? = some doL
 sc : Sc (h.boxes.length + 1 + 1 + 1 + 1) h.tn src at_ tok sz l h'
 eq : lexR src 0 = ahead l (lexR (src.drop at_) at_)
theorem LInv.next {src : List UInt8} {h h' h2 : Heap} {at_ n : Nat} {tok tok' : Tok} {sz sz' : Nat} {l new : List Tk} (V : LInv src h at_ tok sz l h') (hm : Mut (h.boxes.length + 1 + 1 + 1 + 1) h.tn h' h2)
 (hb : h2.boxes[h.boxes.length + 1 + 1 + 1 + 1]? = some (scan src (at_ + n) tok' sz' (l ++ new))) (hk : CanApp h.tn h2 tok') (hs : sz' = 4 ∨ (l ++ new = [] ∧ tok' = .nil)) (hle : at_ + n ≤ src.length) (hnew : new.length ≤ n)
 (hlex : lexR (src.drop at_) at_ = ahead new (lexR (src.drop (at_ + n)) (at_ + n))) : LInv src h (at_ + n) tok' sz' (l ++ new) h2 where
 ext := V.ext.mut hm (by omega)
 b0 := hm.box _ _ (by omega) V.b0
 b1 := hm.box _ _ (by omega) V.b1
 b2 := hm.box _ _ (by omega) V.b2
 b3 := hm.box _ _ (by omega) V.b3
 sc := ⟨hb, hle, V.sc.len, Nat.le_trans V.sc.tn hm.tn, hk, hs, hm.ok V.sc.ok, by
  have := V.sc.few
  simp
  omega⟩
 eq := by rw [V.eq, hlex, ahead_ahead]
theorem lex_post (src : List UInt8) (hs : src.length ≤ 9223372036854775807) (h : Heap) (ho : okHeap h = true) : ∃ r h', W.call 16 [.v (.string (bs src))] h = some (r, h') ∧ LexPost src h r h' := by
 have u9 := Tryz.underlying9; have u39 := Tryz.underlying39; have a3 := ag3; have a9 := ag9; have a23 := ag39; have a24 := ag31; have a43 := ag76
 have s3 := sz3; have s23 := sz39; have s24 := sz31
 refine call_post rfl Tryz.func16 rfl ?_
 by_cases hbig : 65536 < src.length
 ·have key := Keep.mk (((Ext.push h [.list .nil 0 []]).trans (.push _ [.v (.int .i64 0)])).trans (.push _ [.v (.int .i64 0)]))
  repeat' (first | simp (config := { maxSteps := 4000000 }) (disch := first | exact dZ | fail) only [goS, append_gt, append_gt_yes, plainEv, resultsEv, resultListEv, reduceIte, Nat.reduceEqDiff, goT, beq_self_eq_true, goH, goU, res12, zero39, zero3, zero31, len_push, len_put, put10, cell10, *] | ((first | refine G_d ?_ ?_ | refine G_n ?_ ?_ | refine B_d ?_ ?_ | refine B_n ?_ ?_) <;> (intro _; try (exfalso; omega))) | refine run_draw (by kernel_rfl) ?_ | ((first | refine G_m ?_ ?_ | refine B_m ?_ ?_ | refine G_b ?_ ?_ | refine B_b ?_ ?_) <;> intro _))
  refine answerP (Post := LexPost src h) ?_
  refine ⟨.nil, 0, ?_, ?_, .inl rfl, .inr ⟨?_, rfl⟩⟩
  ·simp only [lexF, if_pos hbig]; rfl
  ·exact ((key.out.put_new (Nat.le_refl _) _).put_new (by omega) _).put_new (by omega) _
  ·simp only [lexF, if_pos hbig]
 ·have hlen : src.length ≤ 65536 := by omega
  have hF : lexF src = match lexR src 0 with | .ok l => (l, 0, 0) | .wrong k => ([], (k : Int), 30) := by unfold lexF; rw [if_neg hbig]
  have kF := Keep.mk hF
  clear hF
  repeat' (first | simp (config := { maxSteps := 4000000 }) (disch := first | exact dZ | fail) only [goS, append_gt, append_gt_yes, plainEv, resultsEv, resultListEv, reduceIte, Nat.reduceEqDiff, goT, beq_self_eq_true, goH, goU, res12, zero39, zero3, zero31, zero79, len_push, len_put, build77, fa79_0, store77, build82, cells82, *] | ((first | refine G_d ?_ ?_ | refine G_n ?_ ?_ | refine B_d ?_ ?_ | refine B_n ?_ ?_) <;> (intro _; try (exfalso; omega))) | refine run_draw (by kernel_rfl) ?_ | ((first | refine G_m ?_ ?_ | refine B_m ?_ ?_ | refine G_b ?_ ?_ | refine B_b ?_ ?_) <;> intro _))
  refine run_loop (fun m e h' => ∃ at_ tok sz l, m = src.length - at_ ∧ e.get 0 = .v (.string (bs src)) ∧ e.get 2 = .ptr (.box h.boxes.length) 0 ∧ e.get 3 = .ptr (.box (h.boxes.length + 1)) 0 ∧ e.get 4 = .ptr (.box (h.boxes.length + 1 + 1)) 0 ∧
   e.get 5 = .ptr (.box (h.boxes.length + 1 + 1 + 1)) 0 ∧ e.get 6 = .ptr (.box (h.boxes.length + 1 + 1 + 1 + 1)) 0 ∧
   e.defers = [(37, [.ptr (.box h.boxes.length) 0, .ptr (.box (h.boxes.length + 1)) 0, .ptr (.box (h.boxes.length + 1 + 1)) 0])] ∧ LInv src h at_ tok sz l h') ?_ src.length _ _ ?_
  ·rintro m e h' ⟨at_, tok, sz, l, rfl, g0, g2, g3, g4, g5, g6, hd, V⟩
   have kV := Keep.mk V
   have b0 := V.b0; have b1 := V.b1; have b2 := V.b2; have b3 := V.b3; have b4 := V.sc.box
   have hle := V.sc.le
   have l4 := (List.getElem?_eq_some_iff.1 b4).1
   have hcr := cls_range (src.getD at_ 0)
   obtain ⟨hc0, hc1⟩ := hcr
   clear V
   by_cases hlt : at_ < src.length
   ·rcases scan_step kV.out.sc hlt with ⟨n', new, q1, q2, ⟨h2, hc, hm, tok', sz', hb', hk', hs'⟩, hlex, hnew⟩ | ⟨⟨h2, hc, hm⟩, hlex⟩
    ·have kq := Keep.mk (And.intro hm (And.intro hb' (And.intro hk' (And.intro hs' (And.intro hlex hnew)))))
     clear hm hb' hk' hs' hlex hnew
     repeat' (first | simp (config := { maxSteps := 4000000 }) (disch := first | exact dZ | fail) only [goS, append_gt, append_gt_yes, plainEv, resultsEv, resultListEv, reduceIte, Nat.reduceEqDiff, goT, beq_self_eq_true, goH, goU, res12, fa82_0, fa82_1, fa82_2, cell30, cell31, cell32, class_ev, fa79_0, ia77, do_get, *] | ((first | refine G_d ?_ ?_ | refine G_n ?_ ?_ | refine B_d ?_ ?_ | refine B_n ?_ ?_) <;> (intro _; try (exfalso; omega))) | refine run_draw (by kernel_rfl) ?_ | ((first | refine G_m ?_ ?_ | refine B_m ?_ ?_ | refine G_b ?_ ?_ | refine B_b ?_ ?_) <;> intro _))
     refine ⟨src.length - (at_ + n'), by omega, at_ + n', tok', sz', l ++ new, rfl, ?_⟩
     simp only [true_and]
     exact kV.out.next kq.out.1 kq.out.2.1 kq.out.2.2.1 kq.out.2.2.2.1 q2 kq.out.2.2.2.2.2 kq.out.2.2.2.2.1
    ·have e0 := hm.box _ _ (by omega) b0
     have e1 := hm.box _ _ (by omega) b1
     have e2 := hm.box _ _ (by omega) b2
     have kq := Keep.mk (And.intro hm hlex)
     have l2 := (List.getElem?_eq_some_iff.1 e2).1
     have hsv := back_saved h.boxes.length h2 at_ e0 e1 e2
     unfold back at hsv
     clear hm hlex
     repeat' (first | simp (config := { maxSteps := 4000000 }) (disch := first | exact dZ | fail) only [goS, append_gt, append_gt_yes, plainEv, resultsEv, resultListEv, reduceIte, Nat.reduceEqDiff, goT, beq_self_eq_true, goH, goU, res12, fa82_0, fa82_1, fa82_2, cell30, cell31, cell32, class_ev, fa79_0, ia77, do_get, cell10, len_put, *] | ((first | refine G_d ?_ ?_ | refine G_n ?_ ?_ | refine B_d ?_ ?_ | refine B_n ?_ ?_) <;> (intro _; try (exfalso; omega))) | refine run_draw (by kernel_rfl) ?_ | ((first | refine G_m ?_ ?_ | refine B_m ?_ ?_ | refine G_b ?_ ?_ | refine B_b ?_ ?_) <;> intro _))
     refine answerP (Post := LexPost src h) ?_
     have hl : lexR src 0 = .wrong at_ := by rw [kV.out.eq, kq.out.2]; rfl
     refine ⟨.nil, 0, ?_, ?_, .inl rfl, .inr ⟨?_, rfl⟩⟩
     ·rw [kF.out, hl]; rfl
     ·exact (((kV.out.ext.mut kq.out.1 (by omega)).put_new (Nat.le_refl _) _).put_new (by omega) _).put_new (by omega) _
     ·rw [kF.out, hl]
   ·have hie : at_ = src.length := by omega
    subst hie
    have hcalm := back_calm' h.boxes.length (((h'.put h.boxes.length [.list tok sz (toks l)]).put (h.boxes.length + 1) [.v (.int .i64 0)]).put (h.boxes.length + 1 + 1) [.v (.int .i64 0)])
    repeat' (first | simp (config := { maxSteps := 4000000 }) (disch := first | exact dZ | fail) only [goS, append_gt, append_gt_yes, plainEv, resultsEv, resultListEv, reduceIte, Nat.reduceEqDiff, goT, beq_self_eq_true, goH, goU, res12, fa82_0, fa82_1, fa82_2, cell30, cell31, cell32, back_calm', put10, cell10, len_put, *] | ((first | refine G_d ?_ ?_ | refine G_n ?_ ?_ | refine B_d ?_ ?_ | refine B_n ?_ ?_) <;> (intro _; try (exfalso; omega))) | refine run_draw (by kernel_rfl) ?_ | ((first | refine G_m ?_ ?_ | refine B_m ?_ ?_ | refine G_b ?_ ?_ | refine B_b ?_ ?_) <;> intro _))
    have hl : lexR src 0 = .ok l := by rw [kV.out.eq, List.drop_length, lexR_nil]; simp [ahead]
    refine answerP (Post := LexPost src h) ?_
    refine ⟨tok, sz, ?_, ?_, ?_, ?_⟩
    ·rw [kF.out, hl]
    ·exact ((kV.out.ext.put_new (Nat.le_refl _) _).put_new (by omega) _).put_new (by omega) _
    ·exact kV.out.sc.can
    ·rw [kF.out, hl]; exact kV.out.sc.size
  ·refine ⟨0, .nil, 0, [], rfl, ?_, ?_, ?_, ?_, ?_, ?_, ?_, ?_⟩
   iterate 7
    ·simp only [goS, append_gt, append_gt_yes, plainEv, resultsEv, resultListEv, reduceIte, Nat.reduceEqDiff, goT, beq_self_eq_true, goH] <;> rfl
   ·constructor
    ·exact ((((((Ext.push h _).trans (.push _ _)).trans (.push _ _)).trans (.push _ _)).put_new (by omega) _).trans (.push _ _))
    ·simp (disch := (first | assumption | omega | (exact (push_len _ _).symm) | (simp only [lenH]; omega) | (refine Nat.le_antisymm ?_ ?_ <;> simp only [lenH] <;> omega) | fail)) only [getS]
    ·simp (disch := (first | assumption | omega | (exact (push_len _ _).symm) | (simp only [lenH]; omega) | (refine Nat.le_antisymm ?_ ?_ <;> simp only [lenH] <;> omega) | fail)) only [getS]
    ·simp (disch := (first | assumption | omega | (exact (push_len _ _).symm) | (simp only [lenH]; omega) | (refine Nat.le_antisymm ?_ ?_ <;> simp only [lenH] <;> omega) | fail)) only [getS]
    ·simp (disch := (first | assumption | omega | (exact (push_len _ _).symm) | (simp only [lenH]; omega) | (refine Nat.le_antisymm ?_ ?_ <;> simp only [lenH] <;> omega) | fail)) only [getS]
    ·refine ⟨?_, Nat.zero_le _, hlen, Nat.le_refl _, .inl rfl, .inr ⟨rfl, rfl⟩, ho, Nat.le_refl _⟩
     simp (disch := (first | assumption | omega | (exact (push_len _ _).symm) | (simp only [lenH]; omega) | (refine Nat.le_antisymm ?_ ?_ <;> simp only [lenH] <;> omega) | fail)) only [getS]
     rfl
    ·rw [List.drop_zero, ahead_nil]
end Go.Proofs.YtmdakolcndpjeaaGreatDoor
end

section
namespace Go.Proofs.YtmdakolcndpjeaaGreatDoor
open Go.AE Go.Lex
def tokOf (r : Option (Res × Heap)) : Tok := match r with | some (.ret (.tuple (.list k _ _ :: _)), _) => k | _ => .nil
def szOf (r : Option (Res × Heap)) : Nat := match r with | some (.ret (.tuple (.list _ sz _ :: _)), _) => sz | _ => 0
noncomputable def lexTok (src : List UInt8) (h : Heap) : Tok := tokOf (W.call 16 [.v (.string (bs src))] h)
noncomputable def lexSz (src : List UInt8) (h : Heap) : Nat := szOf (W.call 16 [.v (.string (bs src))] h)
noncomputable def lexH (src : List UInt8) (h : Heap) : Heap := heapOf W 16 [.v (.string (bs src))] h
section
variable {src : List UInt8} {h : Heap}
theorem lex_all (hs : src.length ≤ 9223372036854775807) (ho : okHeap h = true) : W.call 16 [.v (.string (bs src))] h = some (.ret (.tuple [.list (lexTok src h) (lexSz src h) (toks (lexF src).1), .v (.int .i64 (lexF src).2.1), .v (.int .i64 (lexF src).2.2)]), lexH src h) ∧
 Ext h (lexH src h) ∧ CanApp h.tn (lexH src h) (lexTok src h) ∧ (lexSz src h = 4 ∨ ((lexF src).1 = [] ∧ lexTok src h = .nil)) := by
 obtain ⟨r, h', hc, tok, sz, rfl, hx, hk, hz⟩ := lex_post src hs h ho
 have e1 : lexTok src h = tok := by unfold lexTok; rw [hc]; rfl
 have e2 : lexSz src h = sz := by unfold lexSz; rw [hc]; rfl
 have e3 : lexH src h = h' := heapOf_eq hc
 rw [e1, e2, e3]
 exact ⟨hc, hx, hk, hz⟩
theorem lex_eq (hs : src.length ≤ 9223372036854775807) (ho : okHeap h = true) : W.call 16 [.v (.string (bs src))] h = some (.ret (.tuple [.list (lexTok src h) (lexSz src h) (toks (lexF src).1), .v (.int .i64 (lexF src).2.1), .v (.int .i64 (lexF src).2.2)]), lexH src h) := (lex_all hs ho).1
theorem lex_ext (hs : src.length ≤ 9223372036854775807) (ho : okHeap h = true) : Ext h (lexH src h) := (lex_all hs ho).2.1
theorem lex_ok (hs : src.length ≤ 9223372036854775807) (ho : okHeap h = true) : okHeap (lexH src h) = true := (lex_ext hs ho).ok ho
theorem lex_z (hs : src.length ≤ 9223372036854775807) (ho : okHeap h = true) : ∀ i : Nat, i < (lexF src).1.length → lexSz src h = 4 := by
 intro i hi
 rcases (lex_all hs ho).2.2.2 with q | ⟨q, -⟩
 ·exact q
 ·rw [q] at hi; cases hi
theorem lexF_len (src : List UInt8) : (lexF src).1.length ≤ 65536 := by
 have hv : ∀ (m : Nat) (s : List UInt8) (k : Nat) (l : List Tk), s.length ≤ m → lexR s k = .ok l → l.length ≤ s.length := by
  intro m
  induction m with
  | zero =>
   intro s k l hs h
   obtain rfl := List.length_eq_zero_iff.1 (Nat.le_zero.1 hs)
   rw [lexR_nil] at h; injection h with h; subst h; simp
  | succ m ih =>
   intro s k l hs h
   cases s with
   | nil => rw [lexR_nil] at h; injection h with h; subst h; simp
   | cons c r =>
    cases hst : stepB c r with
    | none => rw [lexR_none hst] at h; cases h
    | some q =>
     obtain ⟨n, o⟩ := q
     rw [lexR_some hst] at h
     cases hr : lexR (r.drop (n - 1)) (k + n) with
     | wrong i => rw [hr] at h; cases h
     | ok l' =>
      rw [hr] at h
      injection h with h
      have := ih (r.drop (n - 1)) (k + n) l' (by simp at hs ⊢; omega) hr
      subst h
      simp only [List.length_drop] at this
      cases o with
      | none => simp [addTk]; omega
      | some q => obtain ⟨a, t, v⟩ := q; simp [addTk]; omega
 unfold lexF
 split
 ·simp
 ·split
  ·rename_i h1 l h2
   have := hv src.length src 0 l (Nat.le_refl _) h2
   show l.length ≤ 65536
   omega
  ·simp
end
end Go.Proofs.YtmdakolcndpjeaaGreatDoor
end
