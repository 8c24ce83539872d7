/-
 Part of the proof: SE.
-/
import Derived.Test.YtmdakolcndpjeaaGreatDoorSB
import Derived.Test.YtmdakolcndpjeaaGreatDoorSC
import Derived.Test.YtmdakolcndpjeaaGreatDoorE4
set_option maxHeartbeats 64000000
set_option maxRecDepth 100000
set_option linter.unusedSimpArgs false
set_option linter.unusedVariables false
set_option linter.constructorNameAsVariable false
section
namespace Go.Proofs.YtmdakolcndpjeaaGreatDoor
open Go.AE Go.Lex Go.Pol Go.Syn
def par (tok : Tok) (sz : Nat) (l : List Tk) (n : Int) (p : Po) (t : PT) : List AV := .list tok sz (toks l) :: .v (.int .i64 n) :: prow p t
section
variable {tok tok' : Tok} {sz sz' : Nat} {l l' : List Tk} {n : Int} {p : Po} {t : PT} {h : Heap} {b : Nat}
theorem par_cells : (AV.agg (par tok sz l n p t)).cellsO = some (par tok sz l n p t) := rfl
end
theorem pars : (∀ (tok : Tok) (sz : Nat) (l : List Tk) (n : Int) (p : Po) (t : PT), ((par tok sz l n p t).drop 0).head? = some (.list tok sz (toks l))) ∧ (∀ (tok : Tok) (sz : Nat) (l : List Tk) (n : Int) (p : Po) (t : PT), ((par tok sz l n p t).drop 1).head? = some (.v (.int .i64 n))) := ⟨fun _ _ _ _ _ _ => rfl, fun _ _ _ _ _ _ => rfl⟩
theorem fp111 : (∀ (r : Ref) (off : Nat), fieldAddrEv Tryz.prog 111 (.ptr r off) 0 = some (.ptr r (off + 0))) ∧ (∀ (r : Ref) (off : Nat), fieldAddrEv Tryz.prog 111 (.ptr r off) 1 = some (.ptr r (off + 1))) ∧ (∀ (r : Ref) (off : Nat), fieldAddrEv Tryz.prog 111 (.ptr r off) 2 = some (.ptr r (off + 2))) := ⟨fun _ _ => by kernel_rfl, fun _ _ => by kernel_rfl, fun _ _ => by kernel_rfl⟩
theorem ag39 : isAggB Tryz.prog 39 = some false := by kernel_rfl
theorem sz39 : sizeB Tryz.prog 39 = some 1 := by kernel_rfl
theorem tks : (∀ t : Tk, (t.row.drop 0).head? = some (.v (.int .i64 t.kind))) ∧ (∀ t : Tk, (t.row.drop 1).head? = some (.v (.string (bs t.text)))) ∧ (∀ t : Tk, (t.row.drop 2).head? = some (.v (.int .i64 t.n))) ∧ (∀ t : Tk, (t.row.drop 3).head? = some (.v (.int .i64 t.at_))) := ⟨fun _ => rfl, fun _ => rfl, fun _ => rfl, fun _ => rfl⟩
theorem fe43 : (∀ (sz i off : Nat) (es : List (List AV)), fieldAddrEv Tryz.prog 43 (.elem sz es i off) 0 = some (.elem sz es i (off + 0))) ∧ (∀ (sz i off : Nat) (es : List (List AV)), fieldAddrEv Tryz.prog 43 (.elem sz es i off) 1 = some (.elem sz es i (off + 1))) ∧ (∀ (sz i off : Nat) (es : List (List AV)), fieldAddrEv Tryz.prog 43 (.elem sz es i off) 2 = some (.elem sz es i (off + 2))) ∧ (∀ (sz i off : Nat) (es : List (List AV)), fieldAddrEv Tryz.prog 43 (.elem sz es i off) 3 = some (.elem sz es i (off + 3))) :=
 ⟨fun _ _ _ _ => by kernel_rfl, fun _ _ _ _ => by kernel_rfl, fun _ _ _ _ => by kernel_rfl, fun _ _ _ _ => by kernel_rfl⟩
section
variable {tok tok' : Tok} {sz sz' : Nat} {l l' : List Tk} {n : Int} {p : Po} {t : PT} {h : Heap} {b : Nat}
theorem store111 (hb : h.boxes[b]? = some (par tok sz l n p t)) : storeEv Tryz.prog h 39 (.ptr (.box b) 0) (.list tok' sz' (toks l')) = some (h.put b (par tok' sz' l' n p t)) := store_box (off := 0) (cs := par tok sz l n p t) (xs := [.list tok' sz' (toks l')]) rfl sz39 hb rfl (show 0 + 1 ≤ 12 by omega)
end
structure Pa (b : Nat) (tok : Tok) (sz : Nat) (l : List Tk) (n : Int) (p : Po) (t : PT) (h : Heap) : Prop where
 box : h.boxes[b]? = some (par tok sz l n p t)
 size : ∀ i : Nat, i < l.length → sz = 4
 few : l.length ≤ 100000000
theorem rs147 : Tryz.f147.results.toList = [.tmp 4] := by kernel_rfl
theorem rs127 : Tryz.f127.results.toList = [.tmp 4] := by kernel_rfl
theorem rs79 : Tryz.f79.results.toList = [] := by kernel_rfl
theorem rs125 : Tryz.f125.results.toList = [] := by kernel_rfl
theorem rs126 : Tryz.f126.results.toList = [.tmp 2] := by kernel_rfl
theorem rs149 : Tryz.f149.results.toList = [.tmp 2] := by kernel_rfl
theorem rs123 : Tryz.f123.results.toList = [.tmp 0] := by kernel_rfl
section
variable {b : Nat} {tok : Tok} {sz : Nat} {l : List Tk} {n : Int} {p : Po} {t : PT} {h : Heap}
theorem toks_pos (x : Tk) (r : List Tk) : (0 : Int) < ((toks (x :: r)).length : Int) := by rw [toks_len, List.length_cons]; omega
theorem toks_zero (x : Tk) (r : List Tk) : (toks (x :: r))[0]? = some x.row := rfl
theorem toks_nil : ((toks []).length : Int) = 0 := rfl
theorem is_ev (s : List UInt8) (P : Pa b tok sz l n p t h) : W.call 147 [.ptr (.box b) 0, .v (.string (bs s))] h = some (.ret (.v (.bool (isT s l))), h) := by
 have u39 := Tryz.underlying39; have u9 := Tryz.underlying9
 have a39 := ag39; have a3 := ag3; have a9 := ag9; have s43 := sz43
 have hb := P.box
 have nb := (List.getElem?_eq_some_iff.1 hb).1
 have hz := P.size
 refine call_of_run rfl Tryz.func147 rfl ?_
 cases l with
 | nil =>
  have e : isT s [] = false := rfl
  rw [e]
  clear hz P
  repeat' (first | simp (config := { maxSteps := 4000000 }) (disch := first | exact dZ | fail) only [goS, append_gt, append_gt_yes, plainEv, resultsEv, resultListEv, reduceIte, Nat.reduceEqDiff, goT, beq_self_eq_true, goH, goU, rs147, fp111, pars, toks_nil, *] | (refine dX ?_ ?_ <;> (intro _; try (exfalso; omega))) | (refine dY ?_ ?_ <;> intro _) | fail)
 | cons x r =>
  obtain rfl := hz 0 (by simp)
  have e := isT_cons s x r
  have i0 := toks_zero x r
  have ip := toks_pos x r
  rw [e]
  clear hz P e
  cases d1 : decide (x.kind = 2) <;> cases d2 : decide (x.text = s)
  all_goals
   repeat' (first | simp (config := { maxSteps := 4000000 }) (disch := first | exact dZ | fail) only [goS, append_gt, append_gt_yes, plainEv, resultsEv, resultListEv, reduceIte, Nat.reduceEqDiff, goT, beq_self_eq_true, goH, goU, rs147, fp111, pars, fe43, tks, index_list, load_row, toks_len, *] | (refine dX ?_ ?_ <;> (intro _; try (exfalso; omega))) | (refine dY ?_ ?_ <;> intro _) | fail)
  all_goals first | rfl | simp_all
end
end Go.Proofs.YtmdakolcndpjeaaGreatDoor
end

section
namespace Go.Proofs.YtmdakolcndpjeaaGreatDoor
open Go.AE Go.Lex Go.Pol Go.Syn
def wrongV (a : Int) : AV := .iface 107 (.agg [.v (.int .i64 a)])
def RPost {α : Type} (b n0 : Nat) (n : Int) (p : Po) (t : PT) (h : Heap) (enc : α → AV → Prop) (pr : PR α) (r : Res) (h' : Heap) : Prop :=
 match pr with
 | .ok x l => ∃ v tok sz, r = .ret v ∧ enc x v ∧ Mut b n0 h h' ∧ Pa b tok sz l n p t h'
 | .bad l => r = .panic (wrongV (failAt n l)) ∧ Mut b n0 h h'
def Reads {α : Type} (g : FuncId) (args : List AV) (b n0 : Nat) (n : Int) (p : Po) (t : PT) (h : Heap) (enc : α → AV → Prop) (pr : PR α) : Prop := ∃ r h', W.call g args h = some (r, h') ∧ RPost b n0 n p t h enc pr r h'
def encU (_ : Unit) (v : AV) : Prop := v = .tuple []
def encS (s : List UInt8) (v : AV) : Prop := v = .v (.string (bs s))
def encI (m : Int) (v : AV) : Prop := v = .v (.int .i64 m)
theorem if107 : isIface Tryz.prog 107 = some false := by kernel_rfl
theorem build107 (a : Int) : buildEv Tryz.prog 107 [(0, .v (.int .i64 a))] = some (.agg [.v (.int .i64 a)]) := by kernel_rfl
section
variable {b : Nat} {tok : Tok} {sz : Nat} {l : List Tk} {n : Int} {p : Po} {t : PT} {h : Heap}
theorem toks_cons_len (x : Tk) (r : List Tk) : (toks (x :: r)).length = r.length + 1 := by rw [toks_len]; rfl
theorem slice1 (x : Tk) (r : List Tk) (k : Tok) : sliceEv Tryz.prog 39 (.list k 4 (toks (x :: r))) (some (.v (.int .i64 1))) none none = some (.list (cutTok k true false r.length) 4 (toks r)) := by
 have := slice_list_from (P := Tryz.prog) (k := k) (kk := .i64) (sz := 4) (es := toks (x :: r)) (lo := 1) Tryz.underlying39 sz43 (by decide) (by rw [toks_cons_len]; omega)
 rw [toks_cons_len] at this
 exact this
theorem take_no {s : List UInt8} (P : Pa b tok sz l n p t h) (hi : isT s l = false) : W.call 127 [.ptr (.box b) 0, .v (.string (bs s))] h = some (.ret (.v (.bool false)), h) := by
 have c := is_ev s P
 rw [hi] at c
 refine call_of_run rfl Tryz.func127 rfl ?_
 repeat' (first | simp (config := { maxSteps := 4000000 }) (disch := first | exact dZ | fail) only [goS, append_gt, append_gt_yes, plainEv, resultsEv, resultListEv, reduceIte, Nat.reduceEqDiff, goT, beq_self_eq_true, goH, goU, rs127, *] | (refine dX ?_ ?_ <;> (intro _; try (exfalso; omega))) | (refine dY ?_ ?_ <;> intro _) | fail)
theorem take_yes {s : List UInt8} {x : Tk} {r : List Tk} (P : Pa b tok sz (x :: r) n p t h) (hi : isT s (x :: r) = true) : W.call 127 [.ptr (.box b) 0, .v (.string (bs s))] h = some (.ret (.v (.bool true)), h.put b (par (cutTok tok true false r.length) 4 r n p t)) := by
 have c := is_ev s P
 rw [hi] at c
 obtain rfl := P.size 0 (by simp)
 have hb := P.box
 have nb := (List.getElem?_eq_some_iff.1 hb).1
 have a39 := ag39; have u39 := Tryz.underlying39
 clear P
 refine call_of_run rfl Tryz.func127 rfl ?_
 repeat' (first | simp (config := { maxSteps := 4000000 }) (disch := first | exact dZ | fail) only [goS, append_gt, append_gt_yes, plainEv, resultsEv, resultListEv, reduceIte, Nat.reduceEqDiff, goT, beq_self_eq_true, goH, goU, rs127, fp111, pars, slice1, store111, *] | (refine dX ?_ ?_ <;> (intro _; try (exfalso; omega))) | (refine dY ?_ ?_ <;> intro _) | fail)
theorem Pa.next {x : Tk} {r : List Tk} (P : Pa b tok sz (x :: r) n p t h) {tok' : Tok} : Pa b tok' 4 r n p t (h.put b (par tok' 4 r n p t)) :=
 ⟨put_this (List.getElem?_eq_some_iff.1 P.box).1, fun _ _ => rfl, by have := P.few; rw [List.length_cons] at this; omega⟩
theorem fail_ev (P : Pa b tok sz l n p t h) : W.call 79 [.ptr (.box b) 0] h = some (.panic (wrongV (failAt n l)), h) := by
 have u39 := Tryz.underlying39; have u9 := Tryz.underlying9
 have a39 := ag39; have a3 := ag3; have a9 := ag9; have s43 := sz43
 have hb := P.box
 have nb := (List.getElem?_eq_some_iff.1 hb).1
 have hz := P.size
 have i107 := if107
 refine call_of_run rfl Tryz.func79 rfl ?_
 cases l with
 | nil =>
  clear hz P
  repeat' (first | simp (config := { maxSteps := 4000000 }) (disch := first | exact dZ | fail) only [goS, append_gt, append_gt_yes, plainEv, resultsEv, resultListEv, reduceIte, Nat.reduceEqDiff, goT, beq_self_eq_true, goH, goU, rs79, fp111, pars, toks_nil, build107, *] | (refine dX ?_ ?_ <;> (intro _; try (exfalso; omega))) | (refine dY ?_ ?_ <;> intro _) | fail)
  rfl
 | cons x r =>
  obtain rfl := hz 0 (by simp)
  have i0 := toks_zero x r
  have ip1 := toks_pos x r
  have ip : (0 : Int) < ((x :: r).length : Int) := by rw [List.length_cons]; omega
  clear hz P
  repeat' (first | simp (config := { maxSteps := 4000000 }) (disch := first | exact dZ | fail) only [goS, append_gt, append_gt_yes, plainEv, resultsEv, resultListEv, reduceIte, Nat.reduceEqDiff, goT, beq_self_eq_true, goH, goU, rs79, fp111, pars, fe43, tks, index_list, load_row, toks_len, build107, *] | (refine dX ?_ ?_ <;> (intro _; try (exfalso; omega))) | (refine dY ?_ ?_ <;> intro _) | fail)
  rfl
end
end Go.Proofs.YtmdakolcndpjeaaGreatDoor
end

section
namespace Go.Proofs.YtmdakolcndpjeaaGreatDoor
open Go.AE Go.Lex Go.Pol Go.Syn
section
variable {b : Nat} {tok : Tok} {sz : Nat} {l : List Tk} {n : Int} {p : Po} {t : PT} {h : Heap}
theorem wantP_cons (s : List UInt8) (w : List (List UInt8)) (l : List Tk) : wantP (s :: w) l = (wantT s l).bind fun _ r => wantP w r := rfl
theorem want_ev (n0 : Nat) (k : Tok) (ws : List (List UInt8)) (hw : ws.length ≤ 1000) (P : Pa b tok sz l n p t h) : Reads 125 [.ptr (.box b) 0, .list k 1 (strs ws)] b n0 n p t h encU (wantP ws l) := by
 have u22 := Tryz.underlying22; have u9 := Tryz.underlying9
 have a9 := ag9; have s9 := sz9
 have hlen := strs_len ws
 unfold Reads
 have kP := Keep.mk P
 clear P
 refine call_post rfl Tryz.func125 rfl ?_
 repeat' (first | simp (config := { maxSteps := 4000000 }) (disch := first | exact dZ | fail) only [goS, append_gt, append_gt_yes, plainEv, resultsEv, resultListEv, reduceIte, Nat.reduceEqDiff, goT, beq_self_eq_true, goH, goU, rs125, *] | (refine dX ?_ ?_ <;> (intro _; try (exfalso; omega))) | (refine dY ?_ ?_ <;> intro _) | fail)
 refine run_loop (fun m e h' => ∃ (i : Nat) (tok' : Tok) (sz' : Nat) (l' : List Tk), i ≤ ws.length ∧ m = ws.length - i ∧ e.get 0 = .ptr (.box b) 0 ∧ e.get 6 = .list k 1 (strs ws) ∧ e.get 7 = .v (.int .i64 (ws.length : Nat)) ∧ e.get 8 = .v (.int .i64 i) ∧ e.defers = [] ∧ wantP ws l = wantP (ws.drop i) l' ∧ Mut b n0 h h' ∧ Pa b tok' sz' l' n p t h') ?_ ws.length _ _ ?_
 ·rintro m e h' ⟨i, tok', sz', l', hi, rfl, g0, g6, g7, g8, hd, hwp, hm, hP⟩
  have kwp := Keep.mk hwp
  have km := Keep.mk hm
  have kP' := Keep.mk hP
  clear hwp hm hP
  by_cases hlt : i < ws.length
  ·have hsg : (strs ws)[i]? = some [.v (.string (bs ws[i]))] := by rw [strs_get, List.getElem?_eq_getElem hlt]; rfl
   have hlt3 : (i : Int) < ((strs ws).length : Int) := by rw [hlen]; omega
   have hlt4 : (i : Int) < (ws.length : Int) := by omega
   have hdr : ws.drop i = ws[i] :: ws.drop (i + 1) := List.drop_eq_getElem_cons hlt
   have kdr := Keep.mk hdr
   clear hdr
   generalize ws[i] = s at *
   cases hi2 : isT s l' with
   | false =>
    have c1 := take_no kP'.out hi2
    have c2 := fail_ev kP'.out
    have hbad : wantP ws l = .bad l' := by
     rw [kwp.out, kdr.out, wantP_cons]
     unfold wantT
     rw [hi2]
     rfl
    have kbad := Keep.mk hbad
    clear hbad hi2
    repeat' (first | simp (config := { maxSteps := 4000000 }) (disch := first | exact dZ | fail) only [goS, append_gt, append_gt_yes, plainEv, resultsEv, resultListEv, reduceIte, Nat.reduceEqDiff, goT, beq_self_eq_true, goH, goU, rs125, index_list, load_row, cell_one, *] | (refine dX ?_ ?_ <;> (intro _; try (exfalso; omega))) | (refine dY ?_ ?_ <;> intro _) | fail)
    exact ⟨_, _, rfl, by rw [kbad.out]; exact ⟨rfl, km.out⟩⟩
   | true =>
    cases l' with
    | nil => cases hi2
    | cons x r =>
     have c1 := take_yes kP'.out hi2
     have hgo : wantP ws l = wantP (ws.drop (i + 1)) r := by
      rw [kwp.out, kdr.out, wantP_cons]
      unfold wantT
      rw [hi2]
      rfl
     have kgo := Keep.mk hgo
     have knx := Keep.mk (kP'.out.next (tok' := cutTok tok' true false r.length))
     clear hgo hi2
     repeat' (first | simp (config := { maxSteps := 4000000 }) (disch := first | exact dZ | fail) only [goS, append_gt, append_gt_yes, plainEv, resultsEv, resultListEv, reduceIte, Nat.reduceEqDiff, goT, beq_self_eq_true, goH, goU, rs125, index_list, load_row, cell_one, *] | (refine dX ?_ ?_ <;> (intro _; try (exfalso; omega))) | (refine dY ?_ ?_ <;> intro _) | fail)
     exact ⟨ws.length - (i + 1), by omega, i + 1, _, 4, r, by omega, rfl, (by first | trivial | (simp; done) | (simp; omega)), (by first | trivial | (simp; done) | (simp; omega)), (by first | trivial | (simp; done) | (simp; omega)), (by first | trivial | (simp; done) | (simp; omega)), (by first | trivial | (simp; done) | (simp; omega)), kgo.out, km.out.trans (.put _ _ _ _), knx.out⟩
  ·have hie : i = ws.length := by omega
   subst hie
   have hlt4 : ¬ ((ws.length : Int) < (ws.length : Int)) := by omega
   have hok : wantP ws l = .ok () l' := by rw [kwp.out, List.drop_length]; rfl
   repeat' (first | simp (config := { maxSteps := 4000000 }) (disch := first | exact dZ | fail) only [goS, append_gt, append_gt_yes, plainEv, resultsEv, resultListEv, reduceIte, Nat.reduceEqDiff, goT, beq_self_eq_true, goH, goU, rs125, *] | (refine dX ?_ ?_ <;> (intro _; try (exfalso; omega))) | (refine dY ?_ ?_ <;> intro _) | fail)
   exact ⟨_, _, rfl, _, _, _, rfl, rfl, km.out, kP'.out⟩
 ·refine ⟨0, tok, sz, l, Nat.zero_le _, rfl, ?_, ?_, ?_, ?_, ?_, by rw [List.drop_zero], Mut.refl _ _ _, kP.out⟩ <;> simp only [goS, append_gt, append_gt_yes, plainEv, resultsEv, resultListEv, reduceIte, Nat.reduceEqDiff, goT, beq_self_eq_true, goH, hlen] <;> rfl
theorem words_ev (h : Heap) : W.call 123 [] h = some (.ret (.list .tight 1 (strs words)), h) := by
 have hb : buildSliceEv Tryz.prog 22 16 [(0, .v (.string (bs kPolicy))), (1, .v (.string (bs kMode))), (2, .v (.string (bs kOld))), (3, .v (.string (bs kNew))), (4, .v (.string (bs kBoth))), (5, .v (.string (bs kEither))), (6, .v (.string (bs kOffice))), (7, .v (.string (bs kKind))), (8, .v (.string (bs kRule))), (9, .v (.string (bs kThink))), (10, .v (.string (bs kChange))), (11, .v (.string (bs kSome))), (12, .v (.string (bs kWeight))), (13, .v (.string (bs kOf))), (14, .v (.string (bs kUpto))), (15, .v (.string (bs kElse)))] = some (.list .tight 1 (strs words)) := by kernel_rfl
 simp only [kPolicy, kMode, kOld, kNew, kBoth, kEither, kOffice, kKind, kRule, kThink, kChange, kSome, kWeight, kOf, kUpto, kElse] at hb
 refine call_of_run rfl Tryz.func123 rfl ?_
 repeat' (first | simp (config := { maxSteps := 4000000 }) (disch := first | exact dZ | fail) only [goS, append_gt, append_gt_yes, plainEv, resultsEv, resultListEv, reduceIte, Nat.reduceEqDiff, goT, beq_self_eq_true, goH, goU, rs123, hb, *] | (refine dX ?_ ?_ <;> (intro _; try (exfalso; omega))) | (refine dY ?_ ?_ <;> intro _) | fail)
theorem contS_ev (k : Tok) (ws : List (List UInt8)) (s : List UInt8) (hl : ws.length ≤ 9223372036854775807) (h : Heap) : W.call 121 [.list k 1 (strs ws), .v (.string (bs s))] h = some (.ret (.v (.bool (ws.contains s))), h) := by
 rw [whole_call]
 show (pContainsStr [.list k 1 (strs ws), .v (.string (bs s))] h).map _ = _
 unfold pContainsStr
 simp only [rowsOf_strs h k 1 ws (fun _ _ => rfl), strsOf_strs, strs_len, if_pos hl, Option.map_some]
 have e : Lib.containsS (ws.map bs) (bs s) = ws.contains s := by
  rw [Bool.eq_iff_iff, Lib.containsS_iff, List.contains_iff_mem, List.mem_map]
  constructor
  ·rintro ⟨q, hq, he⟩
   have : q = s := by
    have := congrArg (fun z : ByteArray => z.data.toList) he
    exact this
   rw [← this]; exact hq
  ·intro hs; exact ⟨s, hs, rfl⟩
 rw [e]
end
end Go.Proofs.YtmdakolcndpjeaaGreatDoor
end

section
namespace Go.Proofs.YtmdakolcndpjeaaGreatDoor
open Go.AE Go.Lex Go.Pol Go.Syn
section
variable {b : Nat} {tok : Tok} {sz : Nat} {l : List Tk} {n : Int} {p : Po} {t : PT} {h : Heap}
theorem number_ev (n0 : Nat) (P : Pa b tok sz l n p t h) : Reads 149 [.ptr (.box b) 0] b n0 n p t h encI (numP l) := by
 have u39 := Tryz.underlying39
 have a39 := ag39; have a3 := ag3; have s43 := sz43
 have hb := P.box
 have nb := (List.getElem?_eq_some_iff.1 hb).1
 have hz := P.size
 unfold Reads
 have kP := Keep.mk P
 cases l with
 | nil =>
  have c2 := fail_ev P
  have e : numP [] = .bad [] := rfl
  rw [e]
  clear hz P e
  refine call_post rfl Tryz.func149 rfl ?_
  repeat' (first | simp (config := { maxSteps := 4000000 }) (disch := first | exact dZ | fail) only [goS, append_gt, append_gt_yes, plainEv, resultsEv, resultListEv, reduceIte, Nat.reduceEqDiff, goT, beq_self_eq_true, goH, goU, rs149, fp111, pars, toks_nil, *] | (refine dX ?_ ?_ <;> (intro _; try (exfalso; omega))) | (refine dY ?_ ?_ <;> intro _) | fail)
  exact ⟨_, _, rfl, rfl, Mut.refl _ _ _⟩
 | cons x r =>
  obtain rfl := hz 0 (by simp)
  have i0 := toks_zero x r
  have ip1 := toks_pos x r
  have ip : (0 : Int) < ((x :: r).length : Int) := by rw [List.length_cons]; omega
  have ip2 : ¬ ((x :: r).length : Int) = 0 := by omega
  have ip3 : decide (((x :: r).length : Int) = 0) = false := decide_eq_false ip2
  cases d1 : decide (x.kind = 2) with
  | false =>
   have c2 := fail_ev P
   have e : numP (x :: r) = .bad (x :: r) := by unfold numP; simp only [of_decide_eq_false d1, if_false]
   rw [e]
   clear hz P e
   refine call_post rfl Tryz.func149 rfl ?_
   repeat' (first | simp (config := { maxSteps := 4000000 }) (disch := first | exact dZ | fail) only [goS, append_gt, append_gt_yes, plainEv, resultsEv, resultListEv, reduceIte, Nat.reduceEqDiff, goT, beq_self_eq_true, goH, goU, rs149, fp111, pars, fe43, tks, index_list, load_row, toks_len, *] | (refine dX ?_ ?_ <;> (intro _; try (exfalso; omega))) | (refine dY ?_ ?_ <;> intro _) | fail)
   exact ⟨_, _, rfl, rfl, Mut.refl _ _ _⟩
  | true =>
   have e : numP (x :: r) = .ok x.n r := by unfold numP; simp only [of_decide_eq_true d1, if_true]
   have knx := Keep.mk (P.next (tok' := cutTok tok true false r.length))
   rw [e]
   clear hz P e
   refine call_post rfl Tryz.func149 rfl ?_
   repeat' (first | simp (config := { maxSteps := 4000000 }) (disch := first | exact dZ | fail) only [goS, append_gt, append_gt_yes, plainEv, resultsEv, resultListEv, reduceIte, Nat.reduceEqDiff, goT, beq_self_eq_true, goH, goU, rs149, fp111, pars, fe43, tks, index_list, load_row, toks_len, slice1, store111, *] | (refine dX ?_ ?_ <;> (intro _; try (exfalso; omega))) | (refine dY ?_ ?_ <;> intro _) | fail)
   exact ⟨_, _, rfl, _, _, _, rfl, rfl, .put _ _ _ _, knx.out⟩
theorem vs_toks (k : Tok) (l : List Tk) : sameAV (.list k 4 (toks l)) (.list k 4 (toks l)) = true := by
 have : sameRows (toks l) (toks l) = true := sameRows_of fun r hr => by
  obtain ⟨s, -, rfl⟩ := List.mem_map.1 hr
  simp [Tk.row, sameL, sameAV, sameV]
 simp [sameAV, sameTok_refl, this]
theorem name_ev2 (n0 : Nat) (P : Pa b tok sz l n p t h) : Reads 126 [.ptr (.box b) 0] b n0 n p t h encS (nameP l) := by
 have u39 := Tryz.underlying39; have u9 := Tryz.underlying9
 have a39 := ag39; have a3 := ag3; have a9 := ag9; have s43 := sz43
 have hb := P.box
 have nb := (List.getElem?_eq_some_iff.1 hb).1
 have hz := P.size
 have cw := words_ev
 unfold Reads
 cases l with
 | nil =>
  have c2 := fail_ev P
  have e : nameP [] = .bad [] := rfl
  rw [e]
  clear hz P e
  refine call_post rfl Tryz.func126 rfl ?_
  repeat' (first | simp (config := { maxSteps := 4000000 }) (disch := first | exact dZ | fail) only [goS, append_gt, append_gt_yes, plainEv, resultsEv, resultListEv, reduceIte, Nat.reduceEqDiff, goT, beq_self_eq_true, goH, goU, rs126, fp111, pars, toks_nil, *] | (refine dX ?_ ?_ <;> (intro _; try (exfalso; omega))) | (refine dY ?_ ?_ <;> intro _) | fail)
  refine run_draw_but [(17, 21), (17, 24)] (by kernel_rfl) ?_ ?_
  ·intro pr hp
   simp only [List.mem_cons, List.not_mem_nil, or_false] at hp
   rcases hp with rfl | rfl
   ·refine stable_off (by kernel_rfl) rfl rfl (by kernel_rfl) ?_ ?_
    ·simp only [List.take_succ_cons, List.take_zero]
     repeat' (first | simp (config := { maxSteps := 4000000 }) (disch := first | exact dZ | fail) only [goS, append_gt, append_gt_yes, plainEv, resultsEv, resultListEv, reduceIte, Nat.reduceEqDiff, goT, beq_self_eq_true, goH, goU, rs126, fp111, pars, toks_nil, *] | (refine dX ?_ ?_ <;> (intro _; try (exfalso; omega))) | (refine dY ?_ ?_ <;> intro _) | fail)
     refine ⟨by trivial, ?_⟩
     simp [wantedA, st_get]
    ·simp only [List.take_succ_cons, List.take_zero]
     repeat' (first | simp (config := { maxSteps := 4000000 }) (disch := first | exact dZ | fail) only [goS, append_gt, append_gt_yes, plainEv, resultsEv, resultListEv, reduceIte, Nat.reduceEqDiff, goT, beq_self_eq_true, goH, goU, rs126, fp111, pars, toks_nil, *] | (refine dX ?_ ?_ <;> (intro _; try (exfalso; omega))) | (refine dY ?_ ?_ <;> intro _) | fail)
   ·refine stable_off (by kernel_rfl) rfl rfl (by kernel_rfl) ?_ ?_
    ·simp only [List.take_succ_cons, List.take_zero]
     repeat' (first | simp (config := { maxSteps := 4000000 }) (disch := first | exact dZ | fail) only [goS, append_gt, append_gt_yes, plainEv, resultsEv, resultListEv, reduceIte, Nat.reduceEqDiff, goT, beq_self_eq_true, goH, goU, rs126, fp111, pars, toks_nil, *] | (refine dX ?_ ?_ <;> (intro _; try (exfalso; omega))) | (refine dY ?_ ?_ <;> intro _) | fail)
     refine ⟨by trivial, ?_⟩
     simp [wantedA, st_get]
    ·simp only [List.take_succ_cons, List.take_zero]
     repeat' (first | simp (config := { maxSteps := 4000000 }) (disch := first | exact dZ | fail) only [goS, append_gt, append_gt_yes, plainEv, resultsEv, resultListEv, reduceIte, Nat.reduceEqDiff, goT, beq_self_eq_true, goH, goU, rs126, fp111, pars, toks_nil, *] | (refine dX ?_ ?_ <;> (intro _; try (exfalso; omega))) | (refine dY ?_ ?_ <;> intro _) | fail)
  ·repeat' (first | simp (config := { maxSteps := 4000000 }) (disch := first | exact dZ | fail) only [goS, append_gt, append_gt_yes, plainEv, resultsEv, resultListEv, reduceIte, Nat.reduceEqDiff, goT, beq_self_eq_true, goH, goU, rs126, fp111, pars, toks_nil, *] | (refine dX ?_ ?_ <;> (intro _; try (exfalso; omega))) | (refine dY ?_ ?_ <;> intro _) | fail)
   exact ⟨_, _, rfl, rfl, Mut.refl _ _ _⟩
 | cons x r =>
  obtain rfl := hz 0 (by simp)
  have i0 := toks_zero x r
  have ip1 := toks_pos x r
  have ip : (0 : Int) < ((x :: r).length : Int) := by rw [List.length_cons]; omega
  have ip2 : ¬ ((x :: r).length : Int) = 0 := by omega
  have ip3 : decide (((x :: r).length : Int) = 0) = false := decide_eq_false ip2
  have cc : ∀ h : Heap, W.call 121 [.list .tight 1 (strs words), .v (.string (bs x.text))] h = some (.ret (.v (.bool (words.contains x.text))), h) := fun h => contS_ev .tight words x.text (by decide) h
  cases d1 : decide (x.kind = 1) with
  | false =>
   have c2 := fail_ev P
   have e : nameP (x :: r) = .bad (x :: r) := by rw [nameP_cons, if_neg (by unfold nameOk; rw [d1]; simp)]
   rw [e]
   clear hz P e
   refine call_post rfl Tryz.func126 rfl ?_
   repeat' (first | simp (config := { maxSteps := 4000000 }) (disch := first | exact dZ | fail) only [goS, append_gt, append_gt_yes, plainEv, resultsEv, resultListEv, reduceIte, Nat.reduceEqDiff, goT, beq_self_eq_true, goH, goU, rs126, fp111, pars, fe43, tks, index_list, load_row, toks_len, slice1, store111, *] | (refine dX ?_ ?_ <;> (intro _; try (exfalso; omega))) | (refine dY ?_ ?_ <;> intro _) | fail)
   refine run_draw_but [(17, 21), (17, 24)] (by kernel_rfl) ?_ ?_
   ·intro pr hp
    simp only [List.mem_cons, List.not_mem_nil, or_false] at hp
    rcases hp with rfl | rfl
    ·refine stable_off (by kernel_rfl) rfl rfl (by kernel_rfl) ?_ ?_
     ·simp only [List.take_succ_cons, List.take_zero]
      repeat' (first | simp (config := { maxSteps := 4000000 }) (disch := first | exact dZ | fail) only [goS, append_gt, append_gt_yes, plainEv, resultsEv, resultListEv, reduceIte, Nat.reduceEqDiff, goT, beq_self_eq_true, goH, goU, rs126, fp111, pars, fe43, tks, index_list, load_row, toks_len, slice1, store111, *] | (refine dX ?_ ?_ <;> (intro _; try (exfalso; omega))) | (refine dY ?_ ?_ <;> intro _) | fail)
      refine ⟨by trivial, ?_⟩
      simp [wantedA, st_get]
     ·simp only [List.take_succ_cons, List.take_zero]
      repeat' (first | simp (config := { maxSteps := 4000000 }) (disch := first | exact dZ | fail) only [goS, append_gt, append_gt_yes, plainEv, resultsEv, resultListEv, reduceIte, Nat.reduceEqDiff, goT, beq_self_eq_true, goH, goU, rs126, fp111, pars, fe43, tks, index_list, load_row, toks_len, slice1, store111, *] | (refine dX ?_ ?_ <;> (intro _; try (exfalso; omega))) | (refine dY ?_ ?_ <;> intro _) | fail)
    ·refine stable_off (by kernel_rfl) rfl rfl (by kernel_rfl) ?_ ?_
     ·simp only [List.take_succ_cons, List.take_zero]
      repeat' (first | simp (config := { maxSteps := 4000000 }) (disch := first | exact dZ | fail) only [goS, append_gt, append_gt_yes, plainEv, resultsEv, resultListEv, reduceIte, Nat.reduceEqDiff, goT, beq_self_eq_true, goH, goU, rs126, fp111, pars, fe43, tks, index_list, load_row, toks_len, slice1, store111, *] | (refine dX ?_ ?_ <;> (intro _; try (exfalso; omega))) | (refine dY ?_ ?_ <;> intro _) | fail)
      refine ⟨by trivial, ?_⟩
      simp [wantedA, st_get]
     ·simp only [List.take_succ_cons, List.take_zero]
      repeat' (first | simp (config := { maxSteps := 4000000 }) (disch := first | exact dZ | fail) only [goS, append_gt, append_gt_yes, plainEv, resultsEv, resultListEv, reduceIte, Nat.reduceEqDiff, goT, beq_self_eq_true, goH, goU, rs126, fp111, pars, fe43, tks, index_list, load_row, toks_len, slice1, store111, *] | (refine dX ?_ ?_ <;> (intro _; try (exfalso; omega))) | (refine dY ?_ ?_ <;> intro _) | fail)
   ·repeat' (first | simp (config := { maxSteps := 4000000 }) (disch := first | exact dZ | fail) only [goS, append_gt, append_gt_yes, plainEv, resultsEv, resultListEv, reduceIte, Nat.reduceEqDiff, goT, beq_self_eq_true, goH, goU, rs126, fp111, pars, fe43, tks, index_list, load_row, toks_len, slice1, store111, *] | (refine dX ?_ ?_ <;> (intro _; try (exfalso; omega))) | (refine dY ?_ ?_ <;> intro _) | fail)
    exact ⟨_, _, rfl, rfl, Mut.refl _ _ _⟩
  | true =>
   cases d2 : words.contains x.text with
   | true =>
    have c2 := fail_ev P
    have e : nameP (x :: r) = .bad (x :: r) := by rw [nameP_cons, if_neg (by unfold nameOk; rw [d1, d2]; decide)]
    rw [e]
    rw [d2] at cc
    clear hz P e d2
    refine call_post rfl Tryz.func126 rfl ?_
    repeat' (first | simp (config := { maxSteps := 4000000 }) (disch := first | exact dZ | fail) only [goS, append_gt, append_gt_yes, plainEv, resultsEv, resultListEv, reduceIte, Nat.reduceEqDiff, goT, beq_self_eq_true, goH, goU, rs126, fp111, pars, fe43, tks, index_list, load_row, toks_len, slice1, store111, *] | (refine dX ?_ ?_ <;> (intro _; try (exfalso; omega))) | (refine dY ?_ ?_ <;> intro _) | fail)
    refine run_draw_but [(17, 21), (17, 24)] (by kernel_rfl) ?_ ?_
    ·intro pr hp
     simp only [List.mem_cons, List.not_mem_nil, or_false] at hp
     rcases hp with rfl | rfl
     ·refine stable_behind_g (x := .ptr (.box b) 0) (v := .list tok 4 (toks (x :: r))) (by kernel_rfl) rfl rfl (by kernel_rfl) (vs_toks _ _) ?_ ?_
      ·simp only [List.take_succ_cons, List.take_zero]
       repeat' (first | simp (config := { maxSteps := 4000000 }) (disch := first | exact dZ | fail) only [goS, append_gt, append_gt_yes, plainEv, resultsEv, resultListEv, reduceIte, Nat.reduceEqDiff, goT, beq_self_eq_true, goH, goU, rs126, fp111, pars, fe43, tks, index_list, load_row, toks_len, slice1, store111, *] | (refine dX ?_ ?_ <;> (intro _; try (exfalso; omega))) | (refine dY ?_ ?_ <;> intro _) | fail)
       refine ⟨by trivial, ?_, by trivial, by trivial⟩
       simp [wantedA, st_get]
      ·simp only [List.take_succ_cons, List.take_zero]
       repeat' (first | simp (config := { maxSteps := 4000000 }) (disch := first | exact dZ | fail) only [goS, append_gt, append_gt_yes, plainEv, resultsEv, resultListEv, reduceIte, Nat.reduceEqDiff, goT, beq_self_eq_true, goH, goU, rs126, fp111, pars, fe43, tks, index_list, load_row, toks_len, slice1, store111, *] | (refine dX ?_ ?_ <;> (intro _; try (exfalso; omega))) | (refine dY ?_ ?_ <;> intro _) | fail)
       exact ⟨by trivial, by trivial⟩
     ·refine stable_behind_g (x := .elem 4 (toks (x :: r)) 0 1) (v := .v (.string (bs x.text))) (by kernel_rfl) rfl rfl (by kernel_rfl) (by simp [sameAV, sameV]) ?_ ?_
      ·simp only [List.take_succ_cons, List.take_zero]
       repeat' (first | simp (config := { maxSteps := 4000000 }) (disch := first | exact dZ | fail) only [goS, append_gt, append_gt_yes, plainEv, resultsEv, resultListEv, reduceIte, Nat.reduceEqDiff, goT, beq_self_eq_true, goH, goU, rs126, fp111, pars, fe43, tks, index_list, load_row, toks_len, slice1, store111, *] | (refine dX ?_ ?_ <;> (intro _; try (exfalso; omega))) | (refine dY ?_ ?_ <;> intro _) | fail)
       refine ⟨by trivial, ?_, by trivial, by trivial⟩
       simp [wantedA, st_get]
      ·simp only [List.take_succ_cons, List.take_zero]
       repeat' (first | simp (config := { maxSteps := 4000000 }) (disch := first | exact dZ | fail) only [goS, append_gt, append_gt_yes, plainEv, resultsEv, resultListEv, reduceIte, Nat.reduceEqDiff, goT, beq_self_eq_true, goH, goU, rs126, fp111, pars, fe43, tks, index_list, load_row, toks_len, slice1, store111, *] | (refine dX ?_ ?_ <;> (intro _; try (exfalso; omega))) | (refine dY ?_ ?_ <;> intro _) | fail)
       exact ⟨by trivial, by trivial⟩
    ·repeat' (first | simp (config := { maxSteps := 4000000 }) (disch := first | exact dZ | fail) only [goS, append_gt, append_gt_yes, plainEv, resultsEv, resultListEv, reduceIte, Nat.reduceEqDiff, goT, beq_self_eq_true, goH, goU, rs126, fp111, pars, fe43, tks, index_list, load_row, toks_len, slice1, store111, *] | (refine dX ?_ ?_ <;> (intro _; try (exfalso; omega))) | (refine dY ?_ ?_ <;> intro _) | fail)
     exact ⟨_, _, rfl, rfl, Mut.refl _ _ _⟩
   | false =>
    have e : nameP (x :: r) = .ok x.text r := by rw [nameP_cons, if_pos (by unfold nameOk; rw [d1, d2]; rfl)]
    have knx := Keep.mk (P.next (tok' := cutTok tok true false r.length))
    rw [e]
    rw [d2] at cc
    clear hz P e d2
    refine call_post rfl Tryz.func126 rfl ?_
    repeat' (first | simp (config := { maxSteps := 4000000 }) (disch := first | exact dZ | fail) only [goS, append_gt, append_gt_yes, plainEv, resultsEv, resultListEv, reduceIte, Nat.reduceEqDiff, goT, beq_self_eq_true, goH, goU, rs126, fp111, pars, fe43, tks, index_list, load_row, toks_len, slice1, store111, *] | (refine dX ?_ ?_ <;> (intro _; try (exfalso; omega))) | (refine dY ?_ ?_ <;> intro _) | fail)
    refine run_draw_but [(17, 21), (17, 24)] (by kernel_rfl) ?_ ?_
    ·intro pr hp
     simp only [List.mem_cons, List.not_mem_nil, or_false] at hp
     rcases hp with rfl | rfl
     ·refine stable_behind_g (x := .ptr (.box b) 0) (v := .list tok 4 (toks (x :: r))) (by kernel_rfl) rfl rfl (by kernel_rfl) (vs_toks _ _) ?_ ?_
      ·simp only [List.take_succ_cons, List.take_zero]
       repeat' (first | simp (config := { maxSteps := 4000000 }) (disch := first | exact dZ | fail) only [goS, append_gt, append_gt_yes, plainEv, resultsEv, resultListEv, reduceIte, Nat.reduceEqDiff, goT, beq_self_eq_true, goH, goU, rs126, fp111, pars, fe43, tks, index_list, load_row, toks_len, slice1, store111, *] | (refine dX ?_ ?_ <;> (intro _; try (exfalso; omega))) | (refine dY ?_ ?_ <;> intro _) | fail)
       refine ⟨by trivial, ?_, by trivial, by trivial⟩
       simp [wantedA, st_get]
      ·simp only [List.take_succ_cons, List.take_zero]
       repeat' (first | simp (config := { maxSteps := 4000000 }) (disch := first | exact dZ | fail) only [goS, append_gt, append_gt_yes, plainEv, resultsEv, resultListEv, reduceIte, Nat.reduceEqDiff, goT, beq_self_eq_true, goH, goU, rs126, fp111, pars, fe43, tks, index_list, load_row, toks_len, slice1, store111, *] | (refine dX ?_ ?_ <;> (intro _; try (exfalso; omega))) | (refine dY ?_ ?_ <;> intro _) | fail)
       exact ⟨by trivial, by trivial⟩
     ·refine stable_behind_g (x := .elem 4 (toks (x :: r)) 0 1) (v := .v (.string (bs x.text))) (by kernel_rfl) rfl rfl (by kernel_rfl) (by simp [sameAV, sameV]) ?_ ?_
      ·simp only [List.take_succ_cons, List.take_zero]
       repeat' (first | simp (config := { maxSteps := 4000000 }) (disch := first | exact dZ | fail) only [goS, append_gt, append_gt_yes, plainEv, resultsEv, resultListEv, reduceIte, Nat.reduceEqDiff, goT, beq_self_eq_true, goH, goU, rs126, fp111, pars, fe43, tks, index_list, load_row, toks_len, slice1, store111, *] | (refine dX ?_ ?_ <;> (intro _; try (exfalso; omega))) | (refine dY ?_ ?_ <;> intro _) | fail)
       refine ⟨by trivial, ?_, by trivial, by trivial⟩
       simp [wantedA, st_get]
      ·simp only [List.take_succ_cons, List.take_zero]
       repeat' (first | simp (config := { maxSteps := 4000000 }) (disch := first | exact dZ | fail) only [goS, append_gt, append_gt_yes, plainEv, resultsEv, resultListEv, reduceIte, Nat.reduceEqDiff, goT, beq_self_eq_true, goH, goU, rs126, fp111, pars, fe43, tks, index_list, load_row, toks_len, slice1, store111, *] | (refine dX ?_ ?_ <;> (intro _; try (exfalso; omega))) | (refine dY ?_ ?_ <;> intro _) | fail)
       exact ⟨by trivial, by trivial⟩
    ·repeat' (first | simp (config := { maxSteps := 4000000 }) (disch := first | exact dZ | fail) only [goS, append_gt, append_gt_yes, plainEv, resultsEv, resultListEv, reduceIte, Nat.reduceEqDiff, goT, beq_self_eq_true, goH, goU, rs126, fp111, pars, fe43, tks, index_list, load_row, toks_len, slice1, store111, *] | (refine dX ?_ ?_ <;> (intro _; try (exfalso; omega))) | (refine dY ?_ ?_ <;> intro _) | fail)
     exact ⟨_, _, rfl, _, _, _, rfl, rfl, .put _ _ _ _, knx.out⟩
end
end Go.Proofs.YtmdakolcndpjeaaGreatDoor
end

section
namespace Go.Proofs.YtmdakolcndpjeaaGreatDoor
open Go.AE Go.Lex Go.Pol Go.Syn
section
variable {b : Nat} {tok : Tok} {sz : Nat} {l : List Tk} {n : Int} {p : Po} {t : PT} {h : Heap}
theorem Pa.push (P : Pa b tok sz l n p t h) (cs : List AV) : Pa b tok sz l n p t (h.push cs) := ⟨push_old P.box, P.size, P.few⟩
theorem Pa.put (P : Pa b tok sz l n p t h) {c : Nat} (hc : b ≠ c) (cs : List AV) : Pa b tok sz l n p t (h.put c cs) := ⟨by rw [put_other hc]; exact P.box, P.size, P.few⟩
theorem Pa.app (P : Pa b tok sz l n p t h) (k : Tok) : Pa b tok sz l n p t (h.app k) := ⟨by rw [app_boxes]; exact P.box, P.size, P.few⟩
theorem Pa.lt (P : Pa b tok sz l n p t h) : b < h.boxes.length := (List.getElem?_eq_some_iff.1 P.box).1
end
def encE (x : Ex) (v : AV) : Prop := ∃ tok sz rows, v = .agg (row5 x.kind x.n x.no x.name tok sz rows) ∧ Row x (row5 x.kind x.n x.no x.name tok sz rows)
theorem ag109 : isAggB Tryz.prog 109 = some false := by kernel_rfl
theorem sz109 : sizeB Tryz.prog 109 = some 1 := by kernel_rfl
theorem bx1 (s : List UInt8) : buildEv Tryz.prog 26 [(0, .v (.int .i64 1)), (3, .v (.string (bs s)))] = some (.agg (row5 1 0 0 s .nil 0 [])) := by kernel_rfl
theorem bx2 (n : Int) : buildEv Tryz.prog 26 [(0, .v (.int .i64 2)), (1, .v (.int .i64 n))] = some (.agg (row5 2 n 0 [] .nil 0 [])) := by kernel_rfl
theorem bx3 (n : Int) : buildEv Tryz.prog 26 [(0, .v (.int .i64 3)), (1, .v (.int .i64 n))] = some (.agg (row5 3 n 0 [] .nil 0 [])) := by kernel_rfl
theorem bx4 (n : Int) (tok : Tok) (sz : Nat) (rows : List (List AV)) : buildEv Tryz.prog 26 [(0, .v (.int .i64 4)), (1, .v (.int .i64 n)), (4, .list tok sz rows)] = some (.agg (row5 4 n 0 [] tok sz rows)) := by kernel_rfl
theorem build24 (k n no : Int) (s : List UInt8) (tok : Tok) (sz : Nat) (rows : List (List AV)) : buildSliceEv Tryz.prog 24 1 [(0, .agg (row5 k n no s tok sz rows))] = some (.list .tight 5 [row5 k n no s tok sz rows]) := by kernel_rfl
section
variable {h : Heap} {b : Nat} {k n no k' n' no' : Int} {s s' : List UInt8} {tok tok' : Tok} {sz sz' : Nat} {rows rows' : List (List AV)}
theorem st26 (hb : h.boxes[b]? = some (row5 k n no s tok sz rows)) : storeEv Tryz.prog h 26 (.ptr (.box b) 0) (.agg (row5 k' n' no' s' tok' sz' rows')) = some (h.put b (row5 k' n' no' s' tok' sz' rows')) := store_box (off := 0) (cs := row5 k n no s tok sz rows) (xs := row5 k' n' no' s' tok' sz' rows') rfl sz26 hb rfl (Nat.le_refl 5)
theorem st26_3 (hb : h.boxes[b]? = some (row5 k n no s tok sz rows)) : storeEv Tryz.prog h 9 (.ptr (.box b) 3) (.v (.string (bs s'))) = some (h.put b (row5 k n no s' tok sz rows)) := store_box (off := 3) (cs := row5 k n no s tok sz rows) (xs := [.v (.string (bs s'))]) rfl sz9 hb rfl (show 3 + 1 ≤ 5 by omega)
theorem st26_4 (hb : h.boxes[b]? = some (row5 k n no s tok sz rows)) : storeEv Tryz.prog h 24 (.ptr (.box b) 4) (.list tok' sz' rows') = some (h.put b (row5 k n no s tok' sz' rows')) := store_box (off := 4) (cs := row5 k n no s tok sz rows) (xs := [.list tok' sz' rows']) rfl sz24 hb rfl (show 4 + 1 ≤ 5 by omega)
theorem ld26 (hb : h.boxes[b]? = some (row5 k n no s tok sz rows)) : loadEv Tryz.prog Gt h 26 (.ptr (.box b) 0) = some (.agg (row5 k n no s tok sz rows)) := load_agg ag26 sz26 hb (Nat.le_refl 5)
end
theorem row_leaf (k n no : Int) (s : List UInt8) : Row (.mk k n no s []) (row5 k n no s .nil 0 []) := .mk _ _ _ _ _ _ _ _ rfl (fun i hi => absurd hi (Nat.not_lt_zero i)) (Nat.zero_le _) (fun i x r h => by simp at h)
theorem row_list {k n no : Int} {s : List UInt8} {l : List Ex} {tok : Tok} {sz : Nat} {rows : List (List AV)} (hr : Go.Pol.Rows l rows) (hz : ∀ i : Nat, i < l.length → sz = 5) (hb : l.length ≤ 9223372036854775807) : Row (.mk k n no s l) (row5 k n no s tok sz rows) := .mk _ _ _ _ _ _ _ _ hr.1 hz hb hr.2
theorem rs132 : Tryz.f132.results.toList = [.cell 2 26] := by kernel_rfl
theorem rs150 : Tryz.f150.results.toList = [.cell 2 26] := by kernel_rfl
theorem rs152 : Tryz.f152.results.toList = [.cell 1 26] := by kernel_rfl
theorem rs151 : Tryz.f151.results.toList = [.tmp 6] := by kernel_rfl
def ReadsE (m : Nat) : Prop := ∀ (b n0 : Nat) (tok : Tok) (sz : Nat) (l : List Tk) (n : Int) (p : Po) (t : PT) (h : Heap), Pa b tok sz l n p t h → okHeap h = true → n0 ≤ h.tn → l.length < m → Reads 132 [.ptr (.box b) 0] b n0 n p t h encE (exprP m l)
section
variable {b : Nat} {tok : Tok} {sz : Nat} {l : List Tk} {n : Int} {p : Po} {t : PT} {h : Heap}
theorem want1_ev (n0 : Nat) (k : Tok) (s : List UInt8) (P : Pa b tok sz l n p t h) : Reads 125 [.ptr (.box b) 0, .list k 1 [[.v (.string (bs s))]]] b n0 n p t h encU (wantT s l) := by
 have := want_ev n0 k [s] (by simp) P
 have e : wantP [s] l = wantT s l := by
  rw [wantP_cons]
  cases wantT s l <;> rfl
 rw [e] at this
 exact this
theorem bw1 (s : List UInt8) : buildSliceEv Tryz.prog 22 1 [(0, .v (.string (bs s)))] = some (.list .tight 1 [[.v (.string (bs s))]]) := by kernel_rfl
theorem bw2 (s u : List UInt8) : buildSliceEv Tryz.prog 22 2 [(0, .v (.string (bs s))), (1, .v (.string (bs u)))] = some (.list .tight 1 (strs [s, u])) := by kernel_rfl
theorem inside_ev {m : Nat} (E : ReadsE m) (n0 : Nat) (P : Pa b tok sz l n p t h) (ho : okHeap h = true) (hn : n0 ≤ h.tn) (hl : l.length ≤ m) : Reads 150 [.ptr (.box b) 0] b n0 n p t h encE (inP (exprP m) l) := by
 have a26 := ag26; have s26 := sz26; have z26 := zc26
 have nb := P.lt
 obtain ⟨r1, h1, c1, q1⟩ := want1_ev n0 .tight cOpen (P.push (row5 0 0 0 [] .nil 0 []))
 have e1 : inP (exprP m) l = (wantT cOpen l).bind fun _ r => (exprP m r).bind fun x r => (wantT cClose r).bind fun _ r => .ok x r := rfl
 unfold Reads
 rw [e1]
 have bwo := bw1 cOpen
 have bwc := bw1 cClose
 simp only [cOpen, cClose] at c1 bwo bwc
 cases w1 : wantT cOpen l with
 | bad l1 =>
  rw [w1] at q1
  obtain ⟨rfl, m1⟩ := q1
  refine call_post rfl Tryz.func150 rfl ?_
  repeat' (first | simp (config := { maxSteps := 4000000 }) (disch := first | exact dZ | fail) only [goS, append_gt, append_gt_yes, plainEv, resultsEv, resultListEv, reduceIte, Nat.reduceEqDiff, goT, beq_self_eq_true, goH, goU, rs150, *] | (refine dX ?_ ?_ <;> (intro _; try (exfalso; omega))) | (refine dY ?_ ?_ <;> intro _) | fail)
  exact ⟨_, _, rfl, rfl, ((Mut.refl b n0 h).push _).trans m1⟩
 | ok u l1 =>
  rw [w1] at q1
  obtain ⟨v1, tok1, sz1, rfl, rfl, m1, P1⟩ := q1
  have m1' := ((Mut.refl b n0 h).push (row5 0 0 0 [] .nil 0 [])).trans m1
  have d1 := m1.box _ _ (by omega) (push_last h (row5 0 0 0 [] .nil 0 []))
  have l1lt := want_len w1
  obtain ⟨r2, h2, c2, q2⟩ := E b n0 tok1 sz1 l1 n p t h1 P1 (m1'.ok ho) (Nat.le_trans hn m1'.tn) (by omega)
  rw [bind_ok]
  cases w2 : exprP m l1 with
  | bad l2 =>
   rw [w2] at q2
   obtain ⟨rfl, m2⟩ := q2
   clear P1 P E
   refine call_post rfl Tryz.func150 rfl ?_
   repeat' (first | simp (config := { maxSteps := 4000000 }) (disch := first | exact dZ | fail) only [goS, append_gt, append_gt_yes, plainEv, resultsEv, resultListEv, reduceIte, Nat.reduceEqDiff, goT, beq_self_eq_true, goH, goU, rs150, *] | (refine dX ?_ ?_ <;> (intro _; try (exfalso; omega))) | (refine dY ?_ ?_ <;> intro _) | fail)
   exact ⟨_, _, rfl, rfl, m1'.trans m2⟩
  | ok x l2 =>
   rw [w2] at q2
   obtain ⟨v2, tok2, sz2, rfl, ⟨tkx, szx, rowsx, rfl, hrx⟩, m2, P2⟩ := q2
   have m2' := m1'.trans m2
   have d2 := m2.box _ _ (by omega) d1
   have nl2 := P2.lt
   obtain ⟨r3, h3, c3, q3⟩ := want1_ev n0 .tight cClose (P2.push (row5 x.kind x.n x.no x.name tkx szx rowsx))
   simp only [cClose] at c3
   rw [bind_ok]
   cases w3 : wantT cClose l2 with
   | bad l3 =>
    rw [w3] at q3
    obtain ⟨rfl, m3⟩ := q3
    have kfin := Keep.mk ((m2'.push (row5 x.kind x.n x.no x.name tkx szx rowsx)).trans m3)
    clear P1 P2 P E m1 m2 m3 m1' m2'
    refine call_post rfl Tryz.func150 rfl ?_
    repeat' (first | simp (config := { maxSteps := 4000000 }) (disch := first | exact dZ | fail) only [goS, append_gt, append_gt_yes, plainEv, resultsEv, resultListEv, reduceIte, Nat.reduceEqDiff, goT, beq_self_eq_true, goH, goU, rs150, st26, put_push_eq, *] | (refine dX ?_ ?_ <;> (intro _; try (exfalso; omega))) | (refine dY ?_ ?_ <;> intro _) | fail)
    exact ⟨_, _, rfl, rfl, kfin.out⟩
   | ok u3 l3 =>
    rw [w3] at q3
    obtain ⟨v3, tok3, sz3, rfl, rfl, m3, P3⟩ := q3
    have m3' := (m2'.push (row5 x.kind x.n x.no x.name tkx szx rowsx)).trans m3
    have d3 := m3.box _ _ (by omega) (push_last h2 (row5 x.kind x.n x.no x.name tkx szx rowsx))
    have d4 := m3.box _ _ (by omega) (push_old (cs := row5 x.kind x.n x.no x.name tkx szx rowsx) d2)
    have nd4 := (List.getElem?_eq_some_iff.1 d4).1
    have kfin := Keep.mk (m3'.put_new (Nat.le_refl _) (row5 x.kind x.n x.no x.name tkx szx rowsx))
    have kP := Keep.mk (P3.put (c := h.boxes.length) (by omega) (row5 x.kind x.n x.no x.name tkx szx rowsx))
    have khr := Keep.mk hrx
    clear P1 P2 P3 P E m1 m2 m3 m1' m2' m3' hrx
    refine call_post rfl Tryz.func150 rfl ?_
    repeat' (first | simp (config := { maxSteps := 4000000 }) (disch := first | exact dZ | fail) only [goS, append_gt, append_gt_yes, plainEv, resultsEv, resultListEv, reduceIte, Nat.reduceEqDiff, goT, beq_self_eq_true, goH, goU, rs150, st26, ld26, put_push_eq, *] | (refine dX ?_ ?_ <;> (intro _; try (exfalso; omega))) | (refine dY ?_ ?_ <;> intro _) | fail)
    exact ⟨_, _, rfl, _, _, _, rfl, ⟨_, _, _, rfl, khr.out⟩, kfin.out, kP.out⟩
end
end Go.Proofs.YtmdakolcndpjeaaGreatDoor
end

section
namespace Go.Proofs.YtmdakolcndpjeaaGreatDoor
open Go.AE Go.Lex Go.Pol Go.Syn
theorem app_exs {h : Heap} {tok k' : Tok} {sz : Nat} {rows new : List (List AV)} (hk : CanApp 0 h tok) (hs : sz = 5 ∨ (rows = [] ∧ tok = .nil)) (hl : rows.length + new.length ≤ 1000000000) (hne : new ≠ []) :
 appendEv Tryz.prog h #[24, 24] (.list tok sz rows) (.list k' 5 new) = some (.list (.free h.tn) 5 (rows ++ new), h.app tok) := by
 have hi : (Tryz.prog.info? 26).map (fun i => (decide (i.bytes ≤ 1000), i.size, i.zero.map fun z => z.cells.size)) = some (true, 5, some 5) := by kernel_rfl
 cases hq : Tryz.prog.info? 26 with
 | none => rw [hq] at hi; cases hi
 | some i =>
  rw [hq] at hi
  simp only [Option.map_some, Option.some.injEq, Prod.mk.injEq, decide_eq_true_eq] at hi
  obtain ⟨i1, i2, i3⟩ := hi
  have hm : (rows.length + new.length) * i.bytes ≤ 1000000000 * 1000 := Nat.mul_le_mul hl i1
  have := append_rows (k' := k') (new := new) (es := rows) Tryz.underlying24 Tryz.underlying24 hq (by omega) (by rw [i3, i2]) hne (by omega) (by omega)
   (by rw [i2]; exact hs) hk
  rw [i2] at this
  exact this
theorem app_exs_none {h : Heap} {tok k' : Tok} {sz' : Nat} {rows : List (List AV)} : appendEv Tryz.prog h #[24, 24] (.list tok 5 rows) (.list k' sz' []) = some (.list tok 5 rows, h) := by
 have hi : (Tryz.prog.info? 26).map (fun i => (i.size, i.zero.map fun z => z.cells.size)) = some (5, some 5) := by kernel_rfl
 cases hq : Tryz.prog.info? 26 with
 | none => rw [hq] at hi; cases hi
 | some i =>
  rw [hq] at hi
  simp only [Option.map_some, Option.some.injEq, Prod.mk.injEq] at hi
  obtain ⟨i2, i3⟩ := hi
  have hn : newRows h 5 (.list k' sz' []) = some [] := by simp [newRows, rowsOf]
  unfold appendEv
  simp [Tryz.underlying24, hq, hn, i2, i3]
def encEs (l : List Ex) (v : AV) : Prop := ∃ tok sz rows, v = .list tok sz rows ∧ Go.Pol.Rows l rows ∧ ∀ i : Nat, i < l.length → sz = 5
def PR.pre {α : Type} (a : List α) : PR (List α) → PR (List α)
 | .ok t r => .ok (a ++ t) r
 | .bad r => .bad r
theorem pre_nil {α : Type} (x : PR (List α)) : PR.pre [] x = x := by cases x <;> rfl
theorem pre_snoc {α : Type} (a : List α) (x : α) (y : PR (List α)) : PR.pre a (y.bind fun t r => .ok (x :: t) r) = PR.pre (a ++ [x]) y := by
 cases y with
 | ok t r => show PR.ok (a ++ x :: t) r = PR.ok (a ++ [x] ++ t) r; rw [List.append_assoc]; rfl
 | bad r => rfl
section
variable {b : Nat} {tok : Tok} {sz : Nat} {l : List Tk} {n : Int} {p : Po} {t : PT} {h : Heap}
theorem next_ev {m c : Nat} (E : ReadsE m) (n0 : Nat) (P : Pa b tok sz l n p t h) (hc : h.boxes[c]? = some [.ptr (.box b) 0]) (hcb : c ≠ b) (ho : okHeap h = true) (hn : n0 ≤ h.tn) (hl : l.length ≤ m) : Reads 152 [.ptr (.box c) 0] b n0 n p t h encE (nextP (exprP m) l) := by
 have a26 := ag26; have s26 := sz26; have z26 := zc26; have a109 := ag109; have s109 := sz109
 have nb := P.lt
 have nc := (List.getElem?_eq_some_iff.1 hc).1
 obtain ⟨r1, h1, c1, q1⟩ := want1_ev n0 .tight cComma (P.push (row5 0 0 0 [] .nil 0 []))
 have e1 : nextP (exprP m) l = (wantT cComma l).bind fun _ r => exprP m r := rfl
 unfold Reads
 rw [e1]
 have bwo := bw1 cComma
 simp only [cComma] at c1 bwo
 cases w1 : wantT cComma l with
 | bad l1 =>
  rw [w1] at q1
  obtain ⟨rfl, m1⟩ := q1
  refine call_post rfl Tryz.func152 rfl ?_
  repeat' (first | simp (config := { maxSteps := 4000000 }) (disch := first | exact dZ | fail) only [goS, append_gt, append_gt_yes, plainEv, resultsEv, resultListEv, reduceIte, Nat.reduceEqDiff, goT, beq_self_eq_true, goH, goU, rs152, cell_one, *] | (refine dX ?_ ?_ <;> (intro _; try (exfalso; omega))) | (refine dY ?_ ?_ <;> intro _) | fail)
  exact ⟨_, _, rfl, rfl, ((Mut.refl b n0 h).push _).trans m1⟩
 | ok u l1 =>
  rw [w1] at q1
  obtain ⟨v1, tok1, sz1, rfl, rfl, m1, P1⟩ := q1
  have m1' := ((Mut.refl b n0 h).push (row5 0 0 0 [] .nil 0 [])).trans m1
  have d1 := m1.box _ _ (by omega) (push_last h (row5 0 0 0 [] .nil 0 []))
  have dc := m1'.box _ _ hcb hc
  have l1lt := want_len w1
  obtain ⟨r2, h2, c2, q2⟩ := E b n0 tok1 sz1 l1 n p t h1 P1 (m1'.ok ho) (Nat.le_trans hn m1'.tn) (by omega)
  rw [bind_ok]
  cases w2 : exprP m l1 with
  | bad l2 =>
   rw [w2] at q2
   obtain ⟨rfl, m2⟩ := q2
   have kfin := Keep.mk (m1'.trans m2)
   clear P1 P E m1 m1' m2
   refine call_post rfl Tryz.func152 rfl ?_
   repeat' (first | simp (config := { maxSteps := 4000000 }) (disch := first | exact dZ | fail) only [goS, append_gt, append_gt_yes, plainEv, resultsEv, resultListEv, reduceIte, Nat.reduceEqDiff, goT, beq_self_eq_true, goH, goU, rs152, cell_one, *] | (refine dX ?_ ?_ <;> (intro _; try (exfalso; omega))) | (refine dY ?_ ?_ <;> intro _) | fail)
   exact ⟨_, _, rfl, rfl, kfin.out⟩
  | ok x l2 =>
   rw [w2] at q2
   obtain ⟨v2, tok2, sz2, rfl, ⟨tkx, szx, rowsx, rfl, hrx⟩, m2, P2⟩ := q2
   have m2' := m1'.trans m2
   have d2 := m2.box _ _ (by omega) d1
   have nd2 := (List.getElem?_eq_some_iff.1 d2).1
   have kfin := Keep.mk (m2'.put_new (Nat.le_refl _) (row5 x.kind x.n x.no x.name tkx szx rowsx))
   have kP := Keep.mk (P2.put (c := h.boxes.length) (by omega) (row5 x.kind x.n x.no x.name tkx szx rowsx))
   have khr := Keep.mk hrx
   clear P1 P2 P E m1 m2 m1' m2' hrx
   refine call_post rfl Tryz.func152 rfl ?_
   repeat' (first | simp (config := { maxSteps := 4000000 }) (disch := first | exact dZ | fail) only [goS, append_gt, append_gt_yes, plainEv, resultsEv, resultListEv, reduceIte, Nat.reduceEqDiff, goT, beq_self_eq_true, goH, goU, rs152, cell_one, st26, ld26, put_push_eq, *] | (refine dX ?_ ?_ <;> (intro _; try (exfalso; omega))) | (refine dY ?_ ?_ <;> intro _) | fail)
   exact ⟨_, _, rfl, _, _, _, rfl, ⟨_, _, _, rfl, khr.out⟩, kfin.out, kP.out⟩
theorem some_ex_ev {m c : Nat} (E : ReadsE m) (n0 : Nat) (P : Pa b tok sz l n p t h) (hc : h.boxes[c]? = some [.ptr (.box b) 0]) (hcb : c ≠ b) (ho : okHeap h = true) (hn : n0 ≤ h.tn) (hl : l.length ≤ m) (f : Nat) (hf : l.length < f) :
 Reads 151 [.ptr (.box b) 0, .v (.string (bs cComma)), .func (.func 152) [] [.ptr (.box c) 0]] b n0 n p t h encEs (someP cComma (nextP (exprP m)) f l) := by
 unfold Reads
 have kP := Keep.mk P
 have kE := Keep.mk E
 have kc := Keep.mk hc
 have ko := Keep.mk ho
 have hfew := P.few
 clear P E hc ho
 refine call_post rfl Tryz.func151 rfl ?_
 repeat' (first | simp (config := { maxSteps := 4000000 }) (disch := first | exact dZ | fail) only [goS, append_gt, append_gt_yes, plainEv, resultsEv, resultListEv, reduceIte, Nat.reduceEqDiff, goT, beq_self_eq_true, goH, goU, rs151, *] | (refine dX ?_ ?_ <;> (intro _; try (exfalso; omega))) | (refine dY ?_ ?_ <;> intro _) | fail)
 refine run_loop (fun k e h' => ∃ (a : List Ex) (tokL : Tok) (szL : Nat) (rowsL : List (List AV)) (tok' : Tok) (sz' : Nat) (l' : List Tk) (f' : Nat), k = l'.length ∧ e.get 0 = .ptr (.box b) 0 ∧ e.get 1 = .v (.string (bs cComma)) ∧ e.get 2 = .func (.func 152) [] [.ptr (.box c) 0] ∧ e.get 6 = .list tokL szL rowsL ∧ e.defers = [] ∧
  l'.length < f' ∧ a.length + l'.length ≤ l.length ∧ someP cComma (nextP (exprP m)) f l = PR.pre a (someP cComma (nextP (exprP m)) f' l') ∧ Go.Pol.Rows a rowsL ∧ (szL = 5 ∨ (rowsL = [] ∧ tokL = .nil)) ∧ CanApp n0 h' tokL ∧ Mut b n0 h h' ∧ okHeap h' = true ∧ Pa b tok' sz' l' n p t h') ?_ l.length _ _ ?_
 ·rintro k e h' ⟨a, tokL, szL, rowsL, tok', sz', l', f', rfl, g0, g1, g2, g6, hd, hff, hal, hpre, hrow, hsz, hca, hm, hok, hP⟩
  have kpre := Keep.mk hpre
  have krow := Keep.mk hrow
  have ksz := Keep.mk hsz
  have kca := Keep.mk hca
  have km := Keep.mk hm
  have kok := Keep.mk hok
  have kP' := Keep.mk hP
  have hrl := hrow.1
  clear hpre hrow hsz hca hm hok hP
  have c1 := is_ev cComma kP'.out
  obtain ⟨f'', rfl⟩ : ∃ f'', f' = f'' + 1 := ⟨f' - 1, by omega⟩
  cases hi : isT cComma l' with
  | false =>
   rw [hi] at c1
   have hend : someP cComma (nextP (exprP m)) f l = .ok a l' := by
    rw [kpre.out]
    unfold someP
    rw [hi, if_neg (by decide)]
    show PR.ok (a ++ []) l' = _
    rw [List.append_nil]
   rw [hend]
   clear hend
   repeat' (first | simp (config := { maxSteps := 4000000 }) (disch := first | exact dZ | fail) only [goS, append_gt, append_gt_yes, plainEv, resultsEv, resultListEv, reduceIte, Nat.reduceEqDiff, goT, beq_self_eq_true, goH, goU, rs151, *] | (refine dX ?_ ?_ <;> (intro _; try (exfalso; omega))) | (refine dY ?_ ?_ <;> intro _) | fail)
   refine ⟨_, _, rfl, _, _, _, rfl, ⟨_, _, _, rfl, krow.out, fun i hi => ?_⟩, km.out, kP'.out⟩
   rcases ksz.out with q | ⟨q, -⟩
   ·exact q
   ·exfalso
    have := krow.out.1
    rw [q] at this
    simp at this
    omega
  | true =>
   rw [hi] at c1
   obtain ⟨r2, h2, c2, q2⟩ := next_ev (c := c) kE.out h'.tn kP'.out (km.out.box _ _ hcb kc.out) hcb kok.out (Nat.le_refl _) (by omega)
   cases w2 : nextP (exprP m) l' with
   | bad l2 =>
    rw [w2] at q2
    obtain ⟨rfl, m2⟩ := q2
    have hend : someP cComma (nextP (exprP m)) f l = .bad l2 := by
     rw [kpre.out]
     unfold someP
     rw [if_pos hi, w2]
     rfl
    rw [hend]
    have kfin := Keep.mk (km.out.trans (m2.weak (Nat.le_trans hn km.out.tn)))
    clear hend m2 kE
    repeat' (first | simp (config := { maxSteps := 4000000 }) (disch := first | exact dZ | fail) only [goS, append_gt, append_gt_yes, plainEv, resultsEv, resultListEv, reduceIte, Nat.reduceEqDiff, goT, beq_self_eq_true, goH, goU, rs151, List.cons_append, List.nil_append, *] | (refine dX ?_ ?_ <;> (intro _; try (exfalso; omega))) | (refine dY ?_ ?_ <;> intro _) | fail)
    exact ⟨_, _, rfl, rfl, kfin.out⟩
   | ok x l2 =>
    rw [w2] at q2
    obtain ⟨v2, tok2, sz2, rfl, ⟨tkx, szx, rowsx, rfl, hrx⟩, m2, P2⟩ := q2
    have hl2 : l2.length < l'.length := by
     have e1 : nextP (exprP m) l' = (wantT cComma l').bind fun _ r => exprP m r := rfl
     rw [e1] at w2
     obtain ⟨_, l3, w3, w4⟩ := bind_inv w2
     have := want_len w3
     have := (nice_expr m).len l3
     rw [w4] at this
     have : l2.length ≤ l3.length := this
     omega
    have hgo : someP cComma (nextP (exprP m)) f l = PR.pre (a ++ [x]) (someP cComma (nextP (exprP m)) f'' l2) := by
     rw [kpre.out, ← pre_snoc]
     have e2 : someP cComma (nextP (exprP m)) (f'' + 1) l' = (nextP (exprP m) l').bind fun x r => (someP cComma (nextP (exprP m)) f'' r).bind fun t r => .ok (x :: t) r := by
      conv => lhs; unfold someP
      rw [if_pos hi]
     rw [e2, w2, bind_ok]
    have kgo := Keep.mk hgo
    have km2 := Keep.mk (km.out.trans (m2.weak (Nat.le_trans hn km.out.tn)))
    have kok2 := Keep.mk (m2.ok kok.out)
    have kca2 : CanApp n0 h2 tokL := kca.out.mut m2 (Nat.le_refl _)
    have kca3 := Keep.mk kca2
    have happ : appendEv Tryz.prog h2 #[24, 24] (.list tokL szL rowsL) (.list .tight 5 [row5 x.kind x.n x.no x.name tkx szx rowsx]) = some (.list (.free h2.tn) 5 (rowsL ++ [row5 x.kind x.n x.no x.name tkx szx rowsx]), h2.app tokL) := app_exs (kca2.mono (Nat.zero_le _)) ksz.out (by rw [hrl]; simp; omega) (by simp)
    have kP2 := Keep.mk P2
    have khr := Keep.mk hrx
    clear hgo m2 kE kca2 P2 hrx
    repeat' (first | simp (config := { maxSteps := 4000000 }) (disch := first | exact dZ | fail) only [goS, append_gt, append_gt_yes, plainEv, resultsEv, resultListEv, reduceIte, Nat.reduceEqDiff, goT, beq_self_eq_true, goH, goU, rs151, List.cons_append, List.nil_append, build24, *] | (refine dX ?_ ?_ <;> (intro _; try (exfalso; omega))) | (refine dY ?_ ?_ <;> intro _) | fail)
    refine ⟨l2.length, hl2, a ++ [x], _, _, _, tok2, sz2, l2, f'', rfl, (by first | trivial | (simp; done) | (simp; omega)), (by first | trivial | (simp; done) | (simp; omega)), (by first | trivial | (simp; done) | (simp; omega)), (by first | trivial | (simp; done) | (simp; omega)), (by first | trivial | (simp; done) | (simp; omega)), by omega, by rw [List.length_append, List.length_singleton]; omega, kgo.out, ?_, .inl rfl, ?_, ?_, ?_, ?_⟩
    ·exact krow.out.snoc khr.out
    ·exact kca3.out.next kok2.out (Nat.le_trans hn km2.out.tn)
    ·exact km2.out.app2 kca3.out
    ·exact (Mut.app (b := 0) kca3.out).ok kok2.out
    ·exact kP2.out.app _
 ·refine ⟨[], .nil, 0, [], tok, sz, l, f, rfl, ?_, ?_, ?_, ?_, ?_, hf, by simp, (pre_nil _).symm, Go.Pol.Rows.nil, .inr ⟨rfl, rfl⟩, .inl rfl, Mut.refl _ _ _, ko.out, kP.out⟩ <;> simp only [goS, append_gt, append_gt_yes, plainEv, resultsEv, resultListEv, reduceIte, Nat.reduceEqDiff, goT, beq_self_eq_true, goH] <;> rfl
end
end Go.Proofs.YtmdakolcndpjeaaGreatDoor
end
