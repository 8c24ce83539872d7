/-
 Part of the proof: SI.
-/
import Derived.Test.YtmdakolcndpjeaaGreatDoorSE
import Derived.Test.YtmdakolcndpjeaaGreatDoorE4
import Derived.Test.YtmdakolcndpjeaaGreatDoorSG
set_option maxHeartbeats 64000000
set_option maxRecDepth 100000
set_option linter.unusedSimpArgs false
set_option linter.unusedVariables false
set_option linter.constructorNameAsVariable false
section
namespace Go.Proofs.YtmdakolcndpjeaaGreatDoor
open Go.AE Go.Lex Go.Pol Go.Syn
structure Wr (b n0 : Nat) (l : List Tk) (h : Heap) : Prop where
 box : ∃ tok sz, h.boxes[b]? = some [.list tok sz (toks l)] ∧ (sz = 4 ∨ (l = [] ∧ tok = .nil)) ∧ CanApp n0 h tok
 ok : okHeap h = true
 tn : n0 ≤ h.tn
 few : l.length ≤ 1000000000
inductive It where
 | word (s : List UInt8)
 | name (s : List UInt8)
 | num (n : Int)
 | ex (x : Ex) (row : List AV)
def It.av : It → List AV
 | .word s => [.iface 9 (.v (.string (bs s)))]
 | .name s => [.iface 104 (.v (.string (bs s)))]
 | .num n => [.iface 3 (.v (.int .i64 n))]
 | .ex _ row => [.iface 26 (.agg row)]
def It.tk : It → List Tk
 | .word s => [wT s]
 | .name s => [nT s]
 | .num n => [dT n]
 | .ex x _ => tokE x
def Writes (g : FuncId) (args : List AV) (b n0 : Nat) (h : Heap) (l : List Tk) : Prop := ∃ h', W.call g args h = some (.ret (.tuple []), h') ∧ Mut b n0 h h' ∧ Wr b n0 l h'
def WritesE (x : Ex) : Prop := ∀ (b n0 : Nat) (l : List Tk) (h : Heap) (tok : Tok) (sz : Nat) (rows : List (List AV)), Wr b n0 l h → (l ++ tokE x).length ≤ 1000000000 → Row x (row5 x.kind x.n x.no x.name tok sz rows) → Writes 124 [.ptr (.box b) 0, .agg (row5 x.kind x.n x.no x.name tok sz rows)] b n0 h (l ++ tokE x)
def It.ok : It → Prop
 | .ex x row => WritesE x ∧ ∃ tok sz rows, row = row5 x.kind x.n x.no x.name tok sz rows ∧ Row x row
 | _ => True
theorem rs73 : Tryz.f73.results.toList = [] := by kernel_rfl
theorem as_9_9 (x : AV) : assertEv Tryz.prog (.iface 9 x) 9 true = some (.tuple [x, .v (.bool true)]) := by kernel_rfl
theorem as_104_9 (x : AV) : assertEv Tryz.prog (.iface 104 x) 9 true = some (.tuple [.v (.string (bs [])), .v (.bool false)]) := by kernel_rfl
theorem as_104_104 (x : AV) : assertEv Tryz.prog (.iface 104 x) 104 true = some (.tuple [x, .v (.bool true)]) := by kernel_rfl
theorem as_3_9 (x : AV) : assertEv Tryz.prog (.iface 3 x) 9 true = some (.tuple [.v (.string (bs [])), .v (.bool false)]) := by kernel_rfl
theorem as_3_104 (x : AV) : assertEv Tryz.prog (.iface 3 x) 104 true = some (.tuple [.v (.string (bs [])), .v (.bool false)]) := by kernel_rfl
theorem as_3_3 (x : AV) : assertEv Tryz.prog (.iface 3 x) 3 true = some (.tuple [x, .v (.bool true)]) := by kernel_rfl
theorem as_26_9 (x : AV) : assertEv Tryz.prog (.iface 26 x) 9 true = some (.tuple [.v (.string (bs [])), .v (.bool false)]) := by kernel_rfl
theorem as_26_104 (x : AV) : assertEv Tryz.prog (.iface 26 x) 104 true = some (.tuple [.v (.string (bs [])), .v (.bool false)]) := by kernel_rfl
theorem as_26_3 (x : AV) : assertEv Tryz.prog (.iface 26 x) 3 true = some (.tuple [.v (.int .i64 0), .v (.bool false)]) := by kernel_rfl
theorem as_26_26 (x : AV) : assertEv Tryz.prog (.iface 26 x) 26 true = some (.tuple [x, .v (.bool true)]) := by kernel_rfl
theorem fa65 (r : Ref) (off : Nat) : fieldAddrEv Tryz.prog 65 (.ptr r off) 0 = some (.ptr r (off + 0)) := by kernel_rfl
theorem bt1 (k : Int) (s : List UInt8) : buildEv Tryz.prog 43 [(0, .v (.int .i64 k)), (1, .v (.string (bs s)))] = some (.agg (Tk.row ⟨k, s, 0, 0⟩)) := by kernel_rfl
theorem bt2 (n : Int) : buildEv Tryz.prog 43 [(0, .v (.int .i64 2)), (2, .v (.int .i64 n))] = some (.agg (Tk.row ⟨2, [], n, 0⟩)) := by kernel_rfl
theorem bt39 (t : Tk) : buildSliceEv Tryz.prog 39 1 [(0, .agg t.row)] = some (.list .tight 4 [t.row]) := by kernel_rfl
theorem ag20 : isAggB Tryz.prog 20 = some false := by kernel_rfl
theorem sz20 : sizeB Tryz.prog 20 = some 1 := by kernel_rfl
theorem stw {h : Heap} {b : Nat} {x : AV} {tok : Tok} {sz : Nat} {l : List Tk} (hb : h.boxes[b]? = some [x]) : storeEv Tryz.prog h 39 (.ptr (.box b) 0) (.list tok sz (toks l)) = some (h.put b [.list tok sz (toks l)]) := store_box (off := 0) (cs := [x]) (xs := [.list tok sz (toks l)]) rfl sz39 hb rfl (Nat.le_refl 1)
theorem app_tk18 {h : Heap} {tok : Tok} {sz : Nat} {l : List Tk} {t : Tk} (hk : CanApp 0 h tok) (hs : sz = 4 ∨ (l = [] ∧ tok = .nil)) (hl : l.length ≤ 1000000000) :
 appendEv Tryz.prog h #[39, 39] (.list tok sz (toks l)) (.list .tight 4 [t.row]) = some (.list (.free h.tn) 4 (toks (l ++ [t])), h.app tok) := by
 have hi : (Tryz.prog.info? 43).map (fun i => (decide (i.bytes ≤ 1000), i.size, i.zero.map fun z => z.cells.size)) = some (true, 4, some 4) := by kernel_rfl
 cases hq : Tryz.prog.info? 43 with
 | none => rw [hq] at hi; cases hi
 | some i =>
  rw [hq] at hi
  simp only [Option.map_some, Option.some.injEq, Prod.mk.injEq, decide_eq_true_eq] at hi
  obtain ⟨i1, i2, i3⟩ := hi
  have la := toks_len l
  have hm : ((toks l).length + 1) * i.bytes ≤ 1000000001 * 1000 := Nat.mul_le_mul (by omega) i1
  have := append_rows (k' := .tight) (new := [t.row]) (es := toks l) Tryz.underlying39 Tryz.underlying39 hq (by omega) (by rw [i3, i2]) (by simp) (by simp only [List.length_singleton]; omega) (by simp only [List.length_singleton]; omega)
   (by rw [i2]; rcases hs with q | ⟨q, q2⟩; exact .inl q; exact .inr ⟨by rw [q]; rfl, q2⟩) hk
  rw [i2] at this
  have e : toks l ++ [t.row] = toks (l ++ [t]) := by simp [toks]
  rw [e] at this
  exact this
theorem Wr.next {b n0 : Nat} {h : Heap} {tok : Tok} {sz : Nat} {l : List Tk} {t : Tk} (hb : h.boxes[b]? = some [.list tok sz (toks l)]) (hk : CanApp n0 h tok) (ho : okHeap h = true) (hn : n0 ≤ h.tn) (hl : (l ++ [t]).length ≤ 1000000000) :
 Wr b n0 (l ++ [t]) ((h.app tok).put b [.list (.free h.tn) 4 (toks (l ++ [t]))]) ∧ Mut b n0 h ((h.app tok).put b [.list (.free h.tn) 4 (toks (l ++ [t]))]) :=
 ⟨⟨⟨_, _, put_this (by rw [app_boxes]; exact (List.getElem?_eq_some_iff.1 hb).1), .inl rfl, hk.next ho hn⟩, (Mut.app (b := 0) hk).ok ho, Nat.le_trans hn (by show h.tn ≤ (h.app tok).tn; rw [app_tn]; omega), hl⟩, (Mut.app hk).trans (.put _ _ _ _)⟩
theorem put_ev (b n0 : Nat) (k : Tok) (its : List It) (hok : ∀ i ∈ its, i.ok) (hlen : its.length ≤ 1000) (l : List Tk) (h : Heap) (Wl : Wr b n0 l h) (hl : (l ++ its.flatMap It.tk).length ≤ 1000000000) : Writes 73 [.ptr (.box b) 0, .list k 1 (its.map It.av)] b n0 h (l ++ its.flatMap It.tk) := by
 have u160 := Tryz.underlying160; have a20 := ag20; have s20 := sz20; have u20 := Tryz.underlying20
 have a39 := ag39; have s39 := sz39; have a26 := ag26; have s26 := sz26; have z26 := zc26
 have hil : (its.map It.av).length = its.length := List.length_map _
 have cw := words_ev
 unfold Writes
 have kok := Keep.mk hok
 have kW := Keep.mk Wl
 have kl := Keep.mk hl
 clear hok Wl hl
 suffices hh : ∃ r h', W.call 73 [.ptr (.box b) 0, .list k 1 (its.map It.av)] h = some (r, h') ∧ (r = .ret (.tuple []) ∧ Mut b n0 h h' ∧ Wr b n0 (l ++ its.flatMap It.tk) h') by
  obtain ⟨r, h', c, rfl, c2⟩ := hh
  exact ⟨h', c, c2⟩
 refine call_post rfl Tryz.func73 rfl ?_
 repeat' (first | simp (config := { maxSteps := 4000000 }) (disch := first | exact dZ | fail) only [goS, append_gt, append_gt_yes, plainEv, resultsEv, resultListEv, reduceIte, Nat.reduceEqDiff, goT, beq_self_eq_true, goH, goU, rs73, *] | (refine dX ?_ ?_ <;> (intro _; try (exfalso; omega))) | (refine dY ?_ ?_ <;> intro _) | fail)
 refine run_loop (fun m e h' => ∃ (i : Nat), i ≤ its.length ∧ m = its.length - i ∧ e.get 0 = .ptr (.box b) 0 ∧ e.get 11 = .list k 1 (its.map It.av) ∧ e.get 12 = .v (.int .i64 (its.length : Nat)) ∧ e.get 13 = .v (.int .i64 i) ∧ e.defers = [] ∧ Mut b n0 h h' ∧ Wr b n0 (l ++ (its.take i).flatMap It.tk) h') ?_ its.length _ _ ?_
 ·rintro m e h' ⟨i, hi, rfl, g0, g11, g12, g13, hd, hm, hW⟩
  have km := Keep.mk hm
  have kW' := Keep.mk hW
  clear hm
  by_cases hlt : i < its.length
  ·obtain ⟨it, hit⟩ : ∃ it, its[i]? = some it := ⟨_, List.getElem?_eq_getElem hlt⟩
   have hsg : (its.map It.av)[i]? = some it.av := by rw [List.getElem?_map, hit]; rfl
   have hlt3 : (i : Int) < ((its.map It.av).length : Int) := by rw [hil]; omega
   have hlt4 : (i : Int) < (its.length : Int) := by omega
   have htk : its.take (i + 1) = its.take i ++ [it] := by
    obtain ⟨hj, rfl⟩ := List.getElem?_eq_some_iff.1 hit
    exact List.take_succ_eq_append_getElem hj
   have hfl : l ++ (its.take (i + 1)).flatMap It.tk = (l ++ (its.take i).flatMap It.tk) ++ it.tk := by rw [htk, List.flatMap_append, List.append_assoc]; simp
   have hle : ((l ++ (its.take i).flatMap It.tk) ++ it.tk).length ≤ 1000000000 := by
    have h1 := kl.out
    have h2 : (l ++ its.flatMap It.tk) = ((l ++ (its.take i).flatMap It.tk) ++ it.tk) ++ (its.drop (i + 1)).flatMap It.tk := by
     rw [← hfl, List.append_assoc, ← List.flatMap_append, List.take_append_drop]
    rw [h2, List.length_append] at h1
    omega
   have kfl := Keep.mk hfl
   have kmem := Keep.mk (kok.out it (List.mem_of_getElem? hit))
   obtain ⟨tok, sz, hb, hsz, hca⟩ := hW.box
   have hok' := hW.ok
   have htn := hW.tn
   have nb := (List.getElem?_eq_some_iff.1 hb).1
   have kca := Keep.mk hca
   have ksz := Keep.mk hsz
   have kok' := Keep.mk hok'
   have khb := Keep.mk hb
   clear hW hit htk hfl hca hsz hok'
   generalize l ++ (its.take i).flatMap It.tk = la at *
   have hla : la.length ≤ 1000000000 := by rw [List.length_append] at hle; omega
   cases it with
   | word s =>
    have hcs : ∀ h : Heap, W.call 121 [.list .tight 1 (strs words), .v (.string (bs s))] h = some (.ret (.v (.bool (words.contains s))), h) := fun h => contS_ev .tight words s (by decide) h
    cases hw : words.contains s with
    | true =>
     rw [hw] at hcs
     have e1 : wT s = ⟨1, s, 0, 0⟩ := by unfold wT; rw [if_pos hw]
     have happ := app_tk18 (h := h') (t := ⟨1, s, 0, 0⟩) (kca.out.mono (Nat.zero_le _)) ksz.out hla
     have kn := Keep.mk (Wr.next (t := ⟨1, s, 0, 0⟩) khb.out kca.out kok'.out htn (by have := hle; rw [It.tk, e1] at this; exact this))
     clear hw hle
     rw [It.av] at hsg
     repeat' (first | simp (config := { maxSteps := 4000000 }) (disch := first | exact dZ | fail) only [goS, append_gt, append_gt_yes, plainEv, resultsEv, resultListEv, reduceIte, Nat.reduceEqDiff, goT, beq_self_eq_true, goH, goU, rs73, index_list, load_row, cell_one, as_9_9, fa65, bt1, bt39, stw, *] | (refine dX ?_ ?_ <;> (intro _; try (exfalso; omega))) | (refine dY ?_ ?_ <;> intro _) | fail)
     exact ⟨its.length - (i + 1), by omega, i + 1, by omega, rfl, (by first | trivial | (simp; done) | (simp; omega)), (by first | trivial | (simp; done) | (simp; omega)), (by first | trivial | (simp; done) | (simp; omega)), (by first | trivial | (simp; done) | (simp; omega)), (by first | trivial | (simp; done) | (simp; omega)), km.out.trans kn.out.2, by rw [kfl.out, It.tk, e1]; exact kn.out.1⟩
    | false =>
     rw [hw] at hcs
     have e1 : wT s = ⟨3, s, 0, 0⟩ := by unfold wT; rw [if_neg (by rw [hw]; decide)]
     have happ := app_tk18 (h := h') (t := ⟨3, s, 0, 0⟩) (kca.out.mono (Nat.zero_le _)) ksz.out hla
     have kn := Keep.mk (Wr.next (t := ⟨3, s, 0, 0⟩) khb.out kca.out kok'.out htn (by have := hle; rw [It.tk, e1] at this; exact this))
     clear hw hle
     rw [It.av] at hsg
     repeat' (first | simp (config := { maxSteps := 4000000 }) (disch := first | exact dZ | fail) only [goS, append_gt, append_gt_yes, plainEv, resultsEv, resultListEv, reduceIte, Nat.reduceEqDiff, goT, beq_self_eq_true, goH, goU, rs73, index_list, load_row, cell_one, as_9_9, fa65, bt1, bt2, bt39, stw, *] | (refine dX ?_ ?_ <;> (intro _; try (exfalso; omega))) | (refine dY ?_ ?_ <;> intro _) | fail)
     exact ⟨its.length - (i + 1), by omega, i + 1, by omega, rfl, (by first | trivial | (simp; done) | (simp; omega)), (by first | trivial | (simp; done) | (simp; omega)), (by first | trivial | (simp; done) | (simp; omega)), (by first | trivial | (simp; done) | (simp; omega)), (by first | trivial | (simp; done) | (simp; omega)), km.out.trans kn.out.2, by rw [kfl.out, It.tk, e1]; exact kn.out.1⟩
   | name s =>
    have happ := app_tk18 (h := h') (t := ⟨1, s, 0, 0⟩) (kca.out.mono (Nat.zero_le _)) ksz.out hla
    have kn := Keep.mk (Wr.next (t := ⟨1, s, 0, 0⟩) khb.out kca.out kok'.out htn (by have := hle; rw [It.tk, nT] at this; exact this))
    clear hle
    rw [It.av] at hsg
    repeat' (first | simp (config := { maxSteps := 4000000 }) (disch := first | exact dZ | fail) only [goS, append_gt, append_gt_yes, plainEv, resultsEv, resultListEv, reduceIte, Nat.reduceEqDiff, goT, beq_self_eq_true, goH, goU, rs73, index_list, load_row, cell_one, as_104_9, as_104_104, fa65, bt1, bt2, bt39, stw, *] | (refine dX ?_ ?_ <;> (intro _; try (exfalso; omega))) | (refine dY ?_ ?_ <;> intro _) | fail)
    exact ⟨its.length - (i + 1), by omega, i + 1, by omega, rfl, (by first | trivial | (simp; done) | (simp; omega)), (by first | trivial | (simp; done) | (simp; omega)), (by first | trivial | (simp; done) | (simp; omega)), (by first | trivial | (simp; done) | (simp; omega)), (by first | trivial | (simp; done) | (simp; omega)), km.out.trans kn.out.2, by rw [kfl.out, It.tk, nT]; exact kn.out.1⟩
   | num d =>
    have happ := app_tk18 (h := h') (t := ⟨2, [], d, 0⟩) (kca.out.mono (Nat.zero_le _)) ksz.out hla
    have kn := Keep.mk (Wr.next (t := ⟨2, [], d, 0⟩) khb.out kca.out kok'.out htn (by have := hle; rw [It.tk, dT] at this; exact this))
    clear hle
    rw [It.av] at hsg
    repeat' (first | simp (config := { maxSteps := 4000000 }) (disch := first | exact dZ | fail) only [goS, append_gt, append_gt_yes, plainEv, resultsEv, resultListEv, reduceIte, Nat.reduceEqDiff, goT, beq_self_eq_true, goH, goU, rs73, index_list, load_row, cell_one, as_3_9, as_3_104, as_3_3, fa65, bt1, bt2, bt39, stw, *] | (refine dX ?_ ?_ <;> (intro _; try (exfalso; omega))) | (refine dY ?_ ?_ <;> intro _) | fail)
    exact ⟨its.length - (i + 1), by omega, i + 1, by omega, rfl, (by first | trivial | (simp; done) | (simp; omega)), (by first | trivial | (simp; done) | (simp; omega)), (by first | trivial | (simp; done) | (simp; omega)), (by first | trivial | (simp; done) | (simp; omega)), (by first | trivial | (simp; done) | (simp; omega)), km.out.trans kn.out.2, by rw [kfl.out, It.tk, dT]; exact kn.out.1⟩
   | ex x row =>
    obtain ⟨hw, tokx, szx, rowsx, rfl, hrx⟩ := kmem.out
    obtain ⟨h2, c2, m2, W2⟩ := hw b n0 la (h'.push (row5 x.kind x.n x.no x.name tokx szx rowsx)) tokx szx rowsx ⟨⟨tok, sz, push_old khb.out, ksz.out, kca.out⟩, kok'.out, htn, hla⟩ (by have := hle; rw [It.tk] at this; exact this) hrx
    have km2 := Keep.mk ((km.out.push (row5 x.kind x.n x.no x.name tokx szx rowsx)).trans m2)
    have kW2 := Keep.mk W2
    clear hw m2 W2 hle hrx
    rw [It.av] at hsg
    repeat' (first | simp (config := { maxSteps := 4000000 }) (disch := first | exact dZ | fail) only [goS, append_gt, append_gt_yes, plainEv, resultsEv, resultListEv, reduceIte, Nat.reduceEqDiff, goT, beq_self_eq_true, goH, goU, rs73, index_list, load_row, cell_one, as_26_9, as_26_104, as_26_3, as_26_26, st26, ld26, put_push_eq, *] | (refine dX ?_ ?_ <;> (intro _; try (exfalso; omega))) | (refine dY ?_ ?_ <;> intro _) | fail)
    exact ⟨its.length - (i + 1), by omega, i + 1, by omega, rfl, (by first | trivial | (simp; done) | (simp; omega)), (by first | trivial | (simp; done) | (simp; omega)), (by first | trivial | (simp; done) | (simp; omega)), (by first | trivial | (simp; done) | (simp; omega)), (by first | trivial | (simp; done) | (simp; omega)), km2.out, by rw [kfl.out, It.tk]; exact kW2.out⟩
  ·have hie : i = its.length := by omega
   subst hie
   have hlt4 : ¬ ((its.length : Int) < (its.length : Int)) := by omega
   rw [List.take_length] at kW'
   repeat' (first | simp (config := { maxSteps := 4000000 }) (disch := first | exact dZ | fail) only [goS, append_gt, append_gt_yes, plainEv, resultsEv, resultListEv, reduceIte, Nat.reduceEqDiff, goT, beq_self_eq_true, goH, goU, rs73, *] | (refine dX ?_ ?_ <;> (intro _; try (exfalso; omega))) | (refine dY ?_ ?_ <;> intro _) | fail)
   exact ⟨_, _, rfl, rfl, km.out, kW'.out⟩
 ·refine ⟨0, Nat.zero_le _, rfl, ?_, ?_, ?_, ?_, ?_, Mut.refl _ _ _, by simpa using kW.out⟩ <;> simp only [goS, append_gt, append_gt_yes, plainEv, resultsEv, resultListEv, reduceIte, Nat.reduceEqDiff, goT, beq_self_eq_true, goH, hil] <;> rfl
end Go.Proofs.YtmdakolcndpjeaaGreatDoor
end

section
namespace Go.Proofs.YtmdakolcndpjeaaGreatDoor
open Go.AE Go.Lex Go.Pol Go.Syn
theorem rs124 : Tryz.f124.results.toList = [] := by kernel_rfl
theorem tokU_app : ∀ (a b : List Ex) (f : Bool), tokU f (a ++ b) = tokU f a ++ tokU (f && a.isEmpty) b := by
 intro a
 induction a with
 | nil => intro b f; simp [tokU]
 | cons x r ih =>
  intro b f
  rw [List.cons_append, tokU, tokU, ih]
  simp
theorem tokC_app : ∀ (a b : List Ex) (f : Bool), tokC f (a ++ b) = tokC f a ++ tokC (f && a.isEmpty) b := by
 intro a
 induction a with
 | nil => intro b f; simp [tokC]
 | cons x r ih =>
  intro b f
  rw [List.cons_append, tokC, tokC, ih]
  simp
theorem tokU_len : ∀ (l : List Ex) (f : Bool), l.length ≤ (tokU f l).length := by
 intro l
 induction l with
 | nil => intro f; exact Nat.zero_le _
 | cons y r ih =>
  intro f
  have := ih false
  rw [tokU]
  simp only [List.length_append, List.length_cons]
  omega
theorem tokC_pos : ∀ (x : Ex), 1 ≤ (tokE x).length := by
 intro x
 cases x with
 | mk k n no s l =>
  rw [tokE]
  split
  ·simp
  split
  ·simp
  split
  ·simp
  ·simp
theorem tokC_len : ∀ (l : List Ex) (f : Bool), l.length ≤ (tokC f l).length := by
 intro l
 induction l with
 | nil => intro f; exact Nat.zero_le _
 | cons y r ih =>
  intro f
  have := ih false
  have := tokC_pos y
  rw [tokC]
  simp only [List.length_append, List.length_cons]
  omega
theorem bp1 (t : TypeId) (x : AV) : buildSliceEv Tryz.prog 160 1 [(0, .iface t x)] = some (.list .tight 1 [[.iface t x]]) := by kernel_rfl
theorem bp2 (t u : TypeId) (x y : AV) : buildSliceEv Tryz.prog 160 2 [(0, .iface t x), (1, .iface u y)] = some (.list .tight 1 [[.iface t x], [.iface u y]]) := by kernel_rfl
theorem bp3 (t u v : TypeId) (x y z : AV) : buildSliceEv Tryz.prog 160 3 [(0, .iface t x), (1, .iface u y), (2, .iface v z)] = some (.list .tight 1 [[.iface t x], [.iface u y], [.iface v z]]) := by kernel_rfl
theorem bp4 (t u v w : TypeId) (x y z q : AV) : buildSliceEv Tryz.prog 160 4 [(0, .iface t x), (1, .iface u y), (2, .iface v z), (3, .iface w q)] = some (.list .tight 1 [[.iface t x], [.iface u y], [.iface v z], [.iface w q]]) := by kernel_rfl
theorem if9 : isIface Tryz.prog 9 = some false := by kernel_rfl
theorem if104 : isIface Tryz.prog 104 = some false := by kernel_rfl
theorem if3 : isIface Tryz.prog 3 = some false := by kernel_rfl
theorem if26 : isIface Tryz.prog 26 = some false := by kernel_rfl
theorem q5_all (k n no : Int) (s : List UInt8) (tok : Tok) (sz : Nat) (rows : List (List AV)) : ((row5 k n no s tok sz rows).drop 0).take 5 = row5 k n no s tok sz rows := rfl
theorem q5_1 (k n no : Int) (s : List UInt8) (tok : Tok) (sz : Nat) (rows : List (List AV)) : ((row5 k n no s tok sz rows).drop 1).head? = some (.v (.int .i64 n)) := rfl
theorem q5_3 (k n no : Int) (s : List UInt8) (tok : Tok) (sz : Nat) (rows : List (List AV)) : ((row5 k n no s tok sz rows).drop 3).head? = some (.v (.string (bs s))) := rfl
theorem q5_0 (k n no : Int) (s : List UInt8) (tok : Tok) (sz : Nat) (rows : List (List AV)) : ((row5 k n no s tok sz rows).drop 0).head? = some (.v (.int .i64 k)) := rfl
theorem q5_4 (k n no : Int) (s : List UInt8) (tok : Tok) (sz : Nat) (rows : List (List AV)) : ((row5 k n no s tok sz rows).drop 4).head? = some (.list tok sz rows) := rfl
theorem r5c (k n no : Int) (s : List UInt8) (tok : Tok) (sz : Nat) (rows : List (List AV)) : (AV.agg (row5 k n no s tok sz rows)).cellsO = some (row5 k n no s tok sz rows) := rfl
theorem Wr.push {b n0 : Nat} {l : List Tk} {h : Heap} (w : Wr b n0 l h) (cs : List AV) : Wr b n0 l (h.push cs) := by
 obtain ⟨tok, sz, hb, hs, hc⟩ := w.box
 exact ⟨⟨tok, sz, push_old hb, hs, hc⟩, w.ok, w.tn, w.few⟩
theorem Wr.lt {b n0 : Nat} {l : List Tk} {h : Heap} (w : Wr b n0 l h) : b < h.boxes.length := by
 obtain ⟨tok, sz, hb, -, -⟩ := w.box
 exact (List.getElem?_eq_some_iff.1 hb).1
theorem writes_expr : ∀ x, WritesE x := by
 intro x
 induction x using Ex.ind with
 | h k nn no s l ih =>
  intro b n0 l0 h tok sz rows Wl hl hrow
  obtain ⟨hrows, hsz, hbd⟩ := Row.got hrow
  simp only [Ex.kind, Ex.n, Ex.no, Ex.name, Ex.l] at hrows hsz hbd ⊢
  have a26 := ag26; have s26 := sz26; have z26 := zc26; have a24 := ag24; have s24 := sz24; have u24 := Tryz.underlying24; have a3 := ag3; have a9 := ag9
  have i9 := if9; have i104 := if104; have i3 := if3; have i26 := if26
  have W0 := Wl.push (row5 k nn no s tok sz rows)
  have nb := Wl.lt
  unfold Writes
  rw [tokE] at hl ⊢
  by_cases h1 : k = 1
  ·rw [if_pos h1] at hl ⊢
   obtain ⟨h2, c2, m2, W2⟩ := put_ev b n0 .tight [.word kSome, .name s] (fun i hi => by simp at hi; rcases hi with rfl | rfl <;> trivial) (by simp) l0 _ W0 hl
   simp only [List.map_cons, List.map_nil, It.av, kSome] at c2
   have d1 : decide (k = 1) = true := decide_eq_true h1
   have kfin := Keep.mk (((Mut.refl b n0 h).push (row5 k nn no s tok sz rows)).trans m2)
   have kW := Keep.mk W2
   clear W0 W2 Wl m2 hl hrow hrows ih h1
   refine call_ex rfl Tryz.func124 rfl ?_
   repeat' (first | simp (config := { maxSteps := 4000000 }) (disch := first | exact dZ | fail) only [goS, append_gt, append_gt_yes, plainEv, resultsEv, resultListEv, reduceIte, Nat.reduceEqDiff, goT, beq_self_eq_true, goH, goU, rs124, r5c, fa26_0, fa26_1, fa26_3, fa26_4, q5_0, q5_1, q5_3, q5_4, bp1, bp2, bp3, bp4, *] | (refine dX ?_ ?_ <;> (intro _; try (exfalso; omega))) | (refine dY ?_ ?_ <;> intro _) | fail)
   exact ⟨_, rfl, kfin.out, kW.out⟩
  rw [if_neg h1] at hl ⊢
  have d1 : decide (k = 1) = false := decide_eq_false h1
  by_cases h2 : k = 2
  ·rw [if_pos h2] at hl ⊢
   obtain ⟨h3, c2, m2, W2⟩ := put_ev b n0 .tight [.word kWeight, .num nn, .word kOf, .name s] (fun i hi => by simp at hi; rcases hi with rfl | rfl | rfl | rfl <;> trivial) (by simp) l0 _ W0 hl
   simp only [List.map_cons, List.map_nil, It.av, kWeight, kOf] at c2
   have d2 : decide (k = 2) = true := decide_eq_true h2
   have kfin := Keep.mk (((Mut.refl b n0 h).push (row5 k nn no s tok sz rows)).trans m2)
   have kW := Keep.mk W2
   clear W0 W2 Wl m2 hl hrow hrows ih h1 h2
   refine call_ex rfl Tryz.func124 rfl ?_
   repeat' (first | simp (config := { maxSteps := 4000000 }) (disch := first | exact dZ | fail) only [goS, append_gt, append_gt_yes, plainEv, resultsEv, resultListEv, reduceIte, Nat.reduceEqDiff, goT, beq_self_eq_true, goH, goU, rs124, r5c, fa26_0, fa26_1, fa26_3, fa26_4, q5_0, q5_1, q5_3, q5_4, bp1, bp2, bp3, bp4, *] | (refine dX ?_ ?_ <;> (intro _; try (exfalso; omega))) | (refine dY ?_ ?_ <;> intro _) | fail)
   exact ⟨_, rfl, kfin.out, kW.out⟩
  rw [if_neg h2] at hl ⊢
  have d2 : decide (k = 2) = false := decide_eq_false h2
  by_cases h4 : k = 4
  ·rw [if_pos h4] at hl ⊢
   have d4 : decide (k = 4) = true := decide_eq_true h4
   obtain ⟨h2', c2, m2, W2⟩ := put_ev b n0 .tight [.word kUpto, .num nn] (fun i hi => by simp at hi; rcases hi with rfl | rfl <;> trivial) (by simp) l0 _ W0 (by
    have := hl
    simp only [List.flatMap_cons, List.flatMap_nil, It.tk, List.length_append, List.length_cons, List.length_nil] at this ⊢
    omega)
   simp only [List.map_cons, List.map_nil, It.av, kUpto] at c2
   have kM2 := Keep.mk (((Mut.refl b n0 h).push (row5 k nn no s tok sz rows)).trans m2)
   have x2 := m2.box _ _ (by omega) (push_last h (row5 k nn no s tok sz rows))
   have nx2 := (List.getElem?_eq_some_iff.1 x2).1
   have kW2 : Keep (Wr b n0 (l0 ++ (wT kUpto :: dT nn :: tokU true [])) h2') := .mk (by
    have := W2
    simp only [List.flatMap_cons, List.flatMap_nil, It.tk, List.append_nil, List.cons_append, List.nil_append] at this
    rw [tokU]
    simpa using this)
   have khl := Keep.mk hl
   have kih := Keep.mk ih
   have kr := Keep.mk hrows
   have kz := Keep.mk hsz
   have hrl := hrows.1
   have hll : l.length ≤ 1000000000 := by
    have a1 := hl
    have a2 := tokU_len l true
    simp only [List.length_append, List.length_cons, List.length_nil] at a1
    omega
   clear W0 W2 Wl m2 hl hrow hrows hsz ih h1 h2 h4
   refine call_ex rfl Tryz.func124 rfl ?_
   repeat' (first | simp (config := { maxSteps := 4000000 }) (disch := first | exact dZ | fail) only [goS, append_gt, append_gt_yes, plainEv, resultsEv, resultListEv, reduceIte, Nat.reduceEqDiff, goT, beq_self_eq_true, goH, goU, rs124, r5c, fa26_0, fa26_1, fa26_3, fa26_4, q5_0, q5_1, q5_3, q5_4, q5_all, bp1, bp2, bp3, bp4, push_len, st26, ld26, put_push_eq, index_list, load_row_agg, *] | (refine dX ?_ ?_ <;> (intro _; try (exfalso; omega))) | (refine dY ?_ ?_ <;> intro _) | fail)
   refine run_loop (fun m e h' => ∃ (i : Nat), i ≤ l.length ∧ m = l.length - i ∧ e.get 0 = .ptr (.box b) 0 ∧ e.get 74 = .list tok sz rows ∧ e.get 75 = .v (.int .i64 (l.length : Nat)) ∧ e.get 76 = .v (.int .i64 i) ∧ e.defers = [] ∧ Mut b n0 h h' ∧ Wr b n0 (l0 ++ (wT kUpto :: dT nn :: tokU true (l.take i))) h') ?_ l.length _ _ ?_
   ·rintro m e h' ⟨i, hi, rfl, g0, g1, g2, g3, hd, hm, hW⟩
    have km := Keep.mk hm
    have nb' := hW.lt
    by_cases hlt : i < l.length
    ·obtain ⟨y, r, hy, hr, hyr⟩ := kr.out.get hlt
     have h5 := kz.out i hlt
     subst h5
     obtain ⟨tky, szy, rowsy, rfl, -⟩ := Row.five hyr
     have hlt3 : (i : Int) < (rows.length : Int) := by rw [hrl]; omega
     have hlt4 : (i : Int) < (l.length : Int) := by omega
     have hle5 : 5 ≤ ((row5 y.kind y.n y.no y.name tky szy rowsy).drop 0).length := by rw [List.drop_zero]; exact Nat.le_refl _
     have htk : l.take (i + 1) = l.take i ++ [y] := by
      obtain ⟨hj, rfl⟩ := List.getElem?_eq_some_iff.1 hy
      exact List.take_succ_eq_append_getElem hj
     have hbound : (l0 ++ (wT kUpto :: dT nn :: tokU true (l.take (i + 1)))).length ≤ 1000000000 := by
      have a1 := khl.out
      have a2 : tokU true l = tokU true (l.take (i + 1)) ++ tokU (true && (l.take (i + 1)).isEmpty) (l.drop (i + 1)) := by rw [← tokU_app, List.take_append_drop]
      rw [a2] at a1
      simp only [List.length_append, List.length_cons, List.length_nil] at a1 ⊢
      omega
     rw [htk, tokU_app] at hbound
     have WP := hW.push (row5 y.kind y.n y.no y.name tky szy rowsy)
     have hE : WritesE y := kih.out y (List.mem_of_getElem? hy)
     have hoks : ∀ it ∈ ([.word cOpen, .ex y (row5 y.kind y.n y.no y.name tky szy rowsy), .word cClose] : List It), it.ok := by
      intro it hit
      simp only [List.mem_cons, List.not_mem_nil, or_false] at hit
      rcases hit with rfl | rfl | rfl
      ·exact trivial
      ·exact ⟨hE, _, _, _, rfl, hyr⟩
      ·exact trivial
     by_cases h0 : i = 0
     ·have e0 : l.take i = [] := by rw [h0]; rfl
      rw [e0] at hbound WP
      obtain ⟨h3, c3, m3, W3⟩ := put_ev b n0 .tight [.word cOpen, .ex y (row5 y.kind y.n y.no y.name tky szy rowsy), .word cClose] hoks (by simp) _ _ WP (by
       have := hbound
       simp only [List.flatMap_cons, List.flatMap_nil, It.tk, tokU, List.isEmpty_nil, Bool.and_true, if_true, List.length_append, List.length_cons, List.length_nil] at this ⊢
       omega)
      simp only [List.map_cons, List.map_nil, It.av, cOpen, cClose] at c3
      have kM3 := Keep.mk ((km.out.push (row5 y.kind y.n y.no y.name tky szy rowsy)).trans m3)
      have kW3 := Keep.mk W3
      have h0' : ¬ (0 : Int) < (i : Int) := by omega
      have h0'' : decide ((0 : Int) < (i : Int)) = false := decide_eq_false h0'
      have ke0 := Keep.mk e0
      have ktk := Keep.mk htk
      clear hm hW WP W3 m3 hbound hE htk e0 h0 hyr hy hoks
      repeat' (first | simp (config := { maxSteps := 4000000 }) (disch := first | exact dZ | fail) only [goS, append_gt, append_gt_yes, plainEv, resultsEv, resultListEv, reduceIte, Nat.reduceEqDiff, goT, beq_self_eq_true, goH, goU, rs124, r5c, fa26_0, fa26_1, fa26_3, fa26_4, q5_0, q5_1, q5_3, q5_4, q5_all, bp1, bp2, bp3, bp4, push_len, st26, ld26, put_push_eq, index_list, load_row_agg, *] | (refine dX ?_ ?_ <;> (intro _; try (exfalso; omega))) | (refine dY ?_ ?_ <;> intro _) | fail)
      refine ⟨l.length - (i + 1), by omega, i + 1, by omega, rfl, (by first | trivial | (simp; done) | (simp; omega)), (by first | trivial | (simp; done) | (simp; omega)), (by first | trivial | (simp; done) | (simp; omega)), (by first | trivial | (simp; done) | (simp; omega)), (by first | trivial | (simp; done) | (simp; omega)), kM3.out, ?_⟩
      have := kW3.out
      rw [ktk.out, tokU_app, ke0.out]
      simpa [It.tk, tokU] using this
     ·have e0 : (l.take i).isEmpty = false := by
       cases hq : l.take i with
       | nil =>
        exfalso
        have := congrArg List.length hq
        rw [List.length_take, List.length_nil] at this
        omega
       | cons _ _ => rfl
      rw [e0] at hbound
      obtain ⟨h3, c3, m3, W3⟩ := put_ev b n0 .tight [.word kElse] (fun i hi => by simp at hi; subst hi; trivial) (by simp) _ _ WP (by
       have := hbound
       simp only [List.flatMap_cons, List.flatMap_nil, It.tk, tokU, Bool.and_false, Bool.false_eq_true, if_false, List.length_append, List.length_cons, List.length_nil] at this ⊢
       omega)
      simp only [List.map_cons, List.map_nil, It.av, kElse] at c3
      have x3 := m3.box _ _ (by omega) (push_last h' (row5 y.kind y.n y.no y.name tky szy rowsy))
      have nx3 := (List.getElem?_eq_some_iff.1 x3).1
      obtain ⟨h4', c4, m4, W4⟩ := put_ev b n0 .tight [.word cOpen, .ex y (row5 y.kind y.n y.no y.name tky szy rowsy), .word cClose] hoks (by simp) _ _ W3 (by
       have := hbound
       simp only [List.flatMap_cons, List.flatMap_nil, It.tk, tokU, Bool.and_false, Bool.false_eq_true, if_false, List.length_append, List.length_cons, List.length_nil] at this ⊢
       omega)
      simp only [List.map_cons, List.map_nil, It.av, cOpen, cClose] at c4
      have kM4 := Keep.mk (((km.out.push (row5 y.kind y.n y.no y.name tky szy rowsy)).trans m3).trans m4)
      have kW4 := Keep.mk W4
      have h0' : (0 : Int) < (i : Int) := by omega
      have h0'' : decide ((0 : Int) < (i : Int)) = true := decide_eq_true h0'
      have ke0 := Keep.mk e0
      have ktk := Keep.mk htk
      clear hm hW WP W3 W4 m3 m4 hbound hE htk e0 hyr hy hoks
      repeat' (first | simp (config := { maxSteps := 4000000 }) (disch := first | exact dZ | fail) only [goS, append_gt, append_gt_yes, plainEv, resultsEv, resultListEv, reduceIte, Nat.reduceEqDiff, goT, beq_self_eq_true, goH, goU, rs124, r5c, fa26_0, fa26_1, fa26_3, fa26_4, q5_0, q5_1, q5_3, q5_4, q5_all, bp1, bp2, bp3, bp4, push_len, st26, ld26, put_push_eq, index_list, load_row_agg, *] | (refine dX ?_ ?_ <;> (intro _; try (exfalso; omega))) | (refine dY ?_ ?_ <;> intro _) | fail)
      refine ⟨l.length - (i + 1), by omega, i + 1, by omega, rfl, (by first | trivial | (simp; done) | (simp; omega)), (by first | trivial | (simp; done) | (simp; omega)), (by first | trivial | (simp; done) | (simp; omega)), (by first | trivial | (simp; done) | (simp; omega)), (by first | trivial | (simp; done) | (simp; omega)), kM4.out, ?_⟩
      have := kW4.out
      rw [ktk.out, tokU_app, ke0.out]
      simpa [It.tk, tokU] using this
    ·have hie : i = l.length := by omega
     subst hie
     have hlt4 : ¬ ((l.length : Int) < (l.length : Int)) := by omega
     rw [List.take_length] at hW
     have kW := Keep.mk hW
     clear hW
     repeat' (first | simp (config := { maxSteps := 4000000 }) (disch := first | exact dZ | fail) only [goS, append_gt, append_gt_yes, plainEv, resultsEv, resultListEv, reduceIte, Nat.reduceEqDiff, goT, beq_self_eq_true, goH, goU, rs124, r5c, fa26_0, fa26_1, fa26_3, fa26_4, q5_0, q5_1, q5_3, q5_4, q5_all, bp1, bp2, bp3, bp4, push_len, st26, ld26, put_push_eq, index_list, load_row_agg, *] | (refine dX ?_ ?_ <;> (intro _; try (exfalso; omega))) | (refine dY ?_ ?_ <;> intro _) | fail)
     exact ⟨_, rfl, km.out, kW.out⟩
   ·refine ⟨0, Nat.zero_le _, rfl, ?_, ?_, ?_, ?_, ?_, kM2.out, kW2.out⟩ <;> simp only [goS, append_gt, append_gt_yes, plainEv, resultsEv, resultListEv, reduceIte, Nat.reduceEqDiff, goT, beq_self_eq_true, goH, hrl] <;> rfl
  rw [if_neg h4] at hl ⊢
  have d4 : decide (k = 4) = false := decide_eq_false h4
  obtain ⟨h2', c2, m2, W2⟩ := put_ev b n0 .tight [.num nn, .word kOf, .word cOpen] (fun i hi => by simp at hi; rcases hi with rfl | rfl | rfl <;> trivial) (by simp) l0 _ W0 (by
   have := hl
   simp only [List.flatMap_cons, List.flatMap_nil, It.tk, List.length_append, List.length_cons, List.length_nil] at this ⊢
   omega)
  simp only [List.map_cons, List.map_nil, It.av, kOf, cOpen] at c2
  have kM2 := Keep.mk (((Mut.refl b n0 h).push (row5 k nn no s tok sz rows)).trans m2)
  have x2 := m2.box _ _ (by omega) (push_last h (row5 k nn no s tok sz rows))
  have nx2 := (List.getElem?_eq_some_iff.1 x2).1
  have kW2 : Keep (Wr b n0 (l0 ++ (dT nn :: wT kOf :: wT cOpen :: tokC true [])) h2') := .mk (by
   have := W2
   simp only [List.flatMap_cons, List.flatMap_nil, It.tk, List.append_nil, List.cons_append, List.nil_append] at this
   rw [tokC]
   simpa using this)
  have khl := Keep.mk hl
  have kih := Keep.mk ih
  have kr := Keep.mk hrows
  have kz := Keep.mk hsz
  have hrl := hrows.1
  have hll : l.length ≤ 1000000000 := by
   have a1 := hl
   have a2 := tokC_len l true
   simp only [List.length_append, List.length_cons, List.length_nil] at a1
   omega
  clear W0 W2 Wl m2 hl hrow hrows hsz ih h1 h2 h4
  refine call_ex rfl Tryz.func124 rfl ?_
  repeat' (first | simp (config := { maxSteps := 4000000 }) (disch := first | exact dZ | fail) only [goS, append_gt, append_gt_yes, plainEv, resultsEv, resultListEv, reduceIte, Nat.reduceEqDiff, goT, beq_self_eq_true, goH, goU, rs124, r5c, fa26_0, fa26_1, fa26_3, fa26_4, q5_0, q5_1, q5_3, q5_4, q5_all, bp1, bp2, bp3, bp4, push_len, st26, ld26, put_push_eq, index_list, load_row_agg, *] | (refine dX ?_ ?_ <;> (intro _; try (exfalso; omega))) | (refine dY ?_ ?_ <;> intro _) | fail)
  refine run_loop (fun m e h' => ∃ (i : Nat), i ≤ l.length ∧ m = l.length - i ∧ e.get 0 = .ptr (.box b) 0 ∧ e.get 19 = .list tok sz rows ∧ e.get 20 = .v (.int .i64 (l.length : Nat)) ∧ e.get 21 = .v (.int .i64 i) ∧ e.defers = [] ∧ Mut b n0 h h' ∧ Wr b n0 (l0 ++ (dT nn :: wT kOf :: wT cOpen :: tokC true (l.take i))) h') ?_ l.length _ _ ?_
  ·rintro m e h' ⟨i, hi, rfl, g0, g1, g2, g3, hd, hm, hW⟩
   have km := Keep.mk hm
   have nb' := hW.lt
   by_cases hlt : i < l.length
   ·obtain ⟨y, r, hy, hr, hyr⟩ := kr.out.get hlt
    have h5 := kz.out i hlt
    subst h5
    obtain ⟨tky, szy, rowsy, rfl, -⟩ := Row.five hyr
    have hlt3 : (i : Int) < (rows.length : Int) := by rw [hrl]; omega
    have hlt4 : (i : Int) < (l.length : Int) := by omega
    have hle5 : 5 ≤ ((row5 y.kind y.n y.no y.name tky szy rowsy).drop 0).length := by rw [List.drop_zero]; exact Nat.le_refl _
    have htk : l.take (i + 1) = l.take i ++ [y] := by
     obtain ⟨hj, rfl⟩ := List.getElem?_eq_some_iff.1 hy
     exact List.take_succ_eq_append_getElem hj
    have hbound : (l0 ++ (dT nn :: wT kOf :: wT cOpen :: tokC true (l.take (i + 1)))).length ≤ 1000000000 := by
     have a1 := khl.out
     have a2 : tokC true l = tokC true (l.take (i + 1)) ++ tokC (true && (l.take (i + 1)).isEmpty) (l.drop (i + 1)) := by rw [← tokC_app, List.take_append_drop]
     rw [a2] at a1
     simp only [List.length_append, List.length_cons, List.length_nil] at a1 ⊢
     omega
    rw [htk, tokC_app] at hbound
    have WP := hW.push (row5 y.kind y.n y.no y.name tky szy rowsy)
    have hE : WritesE y := kih.out y (List.mem_of_getElem? hy)
    have hoks : ∀ it ∈ ([.ex y (row5 y.kind y.n y.no y.name tky szy rowsy)] : List It), it.ok := by
     intro it hit
     simp only [List.mem_cons, List.not_mem_nil, or_false] at hit
     subst hit
     exact ⟨hE, _, _, _, rfl, hyr⟩
    by_cases h0 : i = 0
    ·have e0 : l.take i = [] := by rw [h0]; rfl
     rw [e0] at hbound WP
     obtain ⟨h3, c3, m3, W3⟩ := put_ev b n0 .tight [.ex y (row5 y.kind y.n y.no y.name tky szy rowsy)] hoks (by simp) _ _ WP (by
      have := hbound
      simp only [List.flatMap_cons, List.flatMap_nil, It.tk, tokC, List.isEmpty_nil, Bool.and_true, if_true, List.length_append, List.length_cons, List.length_nil] at this ⊢
      omega)
     simp only [List.map_cons, List.map_nil, It.av] at c3
     have kM3 := Keep.mk ((km.out.push (row5 y.kind y.n y.no y.name tky szy rowsy)).trans m3)
     have kW3 := Keep.mk W3
     have h0' : ¬ (0 : Int) < (i : Int) := by omega
     have h0'' : decide ((0 : Int) < (i : Int)) = false := decide_eq_false h0'
     have ke0 := Keep.mk e0
     have ktk := Keep.mk htk
     clear hm hW WP W3 m3 hbound hE htk e0 h0 hyr hy hoks
     repeat' (first | simp (config := { maxSteps := 4000000 }) (disch := first | exact dZ | fail) only [goS, append_gt, append_gt_yes, plainEv, resultsEv, resultListEv, reduceIte, Nat.reduceEqDiff, goT, beq_self_eq_true, goH, goU, rs124, r5c, fa26_0, fa26_1, fa26_3, fa26_4, q5_0, q5_1, q5_3, q5_4, q5_all, bp1, bp2, bp3, bp4, push_len, st26, ld26, put_push_eq, index_list, load_row_agg, *] | (refine dX ?_ ?_ <;> (intro _; try (exfalso; omega))) | (refine dY ?_ ?_ <;> intro _) | fail)
     refine ⟨l.length - (i + 1), by omega, i + 1, by omega, rfl, (by first | trivial | (simp; done) | (simp; omega)), (by first | trivial | (simp; done) | (simp; omega)), (by first | trivial | (simp; done) | (simp; omega)), (by first | trivial | (simp; done) | (simp; omega)), (by first | trivial | (simp; done) | (simp; omega)), kM3.out, ?_⟩
     have := kW3.out
     rw [ktk.out, tokC_app, ke0.out]
     simpa [It.tk, tokC] using this
    ·have e0 : (l.take i).isEmpty = false := by
      cases hq : l.take i with
      | nil =>
       exfalso
       have := congrArg List.length hq
       rw [List.length_take, List.length_nil] at this
       omega
      | cons _ _ => rfl
     rw [e0] at hbound
     obtain ⟨h3, c3, m3, W3⟩ := put_ev b n0 .tight [.word cComma] (fun i hi => by simp at hi; subst hi; trivial) (by simp) _ _ WP (by
      have := hbound
      simp only [List.flatMap_cons, List.flatMap_nil, It.tk, tokC, Bool.and_false, Bool.false_eq_true, if_false, List.length_append, List.length_cons, List.length_nil] at this ⊢
      omega)
     simp only [List.map_cons, List.map_nil, It.av, cComma] at c3
     have x3 := m3.box _ _ (by omega) (push_last h' (row5 y.kind y.n y.no y.name tky szy rowsy))
     have nx3 := (List.getElem?_eq_some_iff.1 x3).1
     obtain ⟨h4', c4, m4, W4⟩ := put_ev b n0 .tight [.ex y (row5 y.kind y.n y.no y.name tky szy rowsy)] hoks (by simp) _ _ W3 (by
      have := hbound
      simp only [List.flatMap_cons, List.flatMap_nil, It.tk, tokC, Bool.and_false, Bool.false_eq_true, if_false, List.length_append, List.length_cons, List.length_nil] at this ⊢
      omega)
     simp only [List.map_cons, List.map_nil, It.av] at c4
     have kM4 := Keep.mk (((km.out.push (row5 y.kind y.n y.no y.name tky szy rowsy)).trans m3).trans m4)
     have kW4 := Keep.mk W4
     have h0' : (0 : Int) < (i : Int) := by omega
     have h0'' : decide ((0 : Int) < (i : Int)) = true := decide_eq_true h0'
     have ke0 := Keep.mk e0
     have ktk := Keep.mk htk
     clear hm hW WP W3 W4 m3 m4 hbound hE htk e0 hyr hy hoks
     repeat' (first | simp (config := { maxSteps := 4000000 }) (disch := first | exact dZ | fail) only [goS, append_gt, append_gt_yes, plainEv, resultsEv, resultListEv, reduceIte, Nat.reduceEqDiff, goT, beq_self_eq_true, goH, goU, rs124, r5c, fa26_0, fa26_1, fa26_3, fa26_4, q5_0, q5_1, q5_3, q5_4, q5_all, bp1, bp2, bp3, bp4, push_len, st26, ld26, put_push_eq, index_list, load_row_agg, *] | (refine dX ?_ ?_ <;> (intro _; try (exfalso; omega))) | (refine dY ?_ ?_ <;> intro _) | fail)
     refine ⟨l.length - (i + 1), by omega, i + 1, by omega, rfl, (by first | trivial | (simp; done) | (simp; omega)), (by first | trivial | (simp; done) | (simp; omega)), (by first | trivial | (simp; done) | (simp; omega)), (by first | trivial | (simp; done) | (simp; omega)), (by first | trivial | (simp; done) | (simp; omega)), kM4.out, ?_⟩
     have := kW4.out
     rw [ktk.out, tokC_app, ke0.out]
     simpa [It.tk, tokC] using this
   ·have hie : i = l.length := by omega
    subst hie
    have hlt4 : ¬ ((l.length : Int) < (l.length : Int)) := by omega
    rw [List.take_length] at hW
    obtain ⟨h5, c5, m5, W5⟩ := put_ev b n0 .tight [.word cClose] (fun i hi => by simp at hi; subst hi; trivial) (by simp) _ _ hW (by
     have := khl.out
     simp only [List.flatMap_cons, List.flatMap_nil, It.tk, List.length_append, List.length_cons, List.length_nil] at this ⊢
     omega)
    simp only [List.map_cons, List.map_nil, It.av, cClose] at c5
    have kM := Keep.mk (hm.trans m5)
    have kW := Keep.mk W5
    clear hW hm m5 W5
    repeat' (first | simp (config := { maxSteps := 4000000 }) (disch := first | exact dZ | fail) only [goS, append_gt, append_gt_yes, plainEv, resultsEv, resultListEv, reduceIte, Nat.reduceEqDiff, goT, beq_self_eq_true, goH, goU, rs124, r5c, fa26_0, fa26_1, fa26_3, fa26_4, q5_0, q5_1, q5_3, q5_4, q5_all, bp1, bp2, bp3, bp4, push_len, st26, ld26, put_push_eq, index_list, load_row_agg, *] | (refine dX ?_ ?_ <;> (intro _; try (exfalso; omega))) | (refine dY ?_ ?_ <;> intro _) | fail)
    refine ⟨_, rfl, kM.out, ?_⟩
    have := kW.out
    simpa [It.tk] using this
  ·refine ⟨0, Nat.zero_le _, rfl, ?_, ?_, ?_, ?_, ?_, kM2.out, kW2.out⟩ <;> simp only [goS, append_gt, append_gt_yes, plainEv, resultsEv, resultListEv, reduceIte, Nat.reduceEqDiff, goT, beq_self_eq_true, goH, hrl] <;> rfl
end Go.Proofs.YtmdakolcndpjeaaGreatDoor
end

section
namespace Go.Proofs.YtmdakolcndpjeaaGreatDoor
open Go.AE Go.Lex Go.Pol Go.Syn
theorem rs29 : Tryz.f29.results.toList = [] := by kernel_rfl
theorem bp6 (t1 t2 t3 t4 t5 t6 : TypeId) (x1 x2 x3 x4 x5 x6 : AV) : buildSliceEv Tryz.prog 160 6 [(0, .iface t1 x1), (1, .iface t2 x2), (2, .iface t3 x3), (3, .iface t4 x4), (4, .iface t5 x5), (5, .iface t6 x6)] = some (.list .tight 1 [[.iface t1 x1], [.iface t2 x2], [.iface t3 x3], [.iface t4 x4], [.iface t5 x5], [.iface t6 x6]]) := by kernel_rfl
theorem bp7 (t1 t2 t3 t4 t5 t6 t7 : TypeId) (x1 x2 x3 x4 x5 x6 x7 : AV) : buildSliceEv Tryz.prog 160 7 [(0, .iface t1 x1), (1, .iface t2 x2), (2, .iface t3 x3), (3, .iface t4 x4), (4, .iface t5 x5), (5, .iface t6 x6), (6, .iface t7 x7)] = some (.list .tight 1 [[.iface t1 x1], [.iface t2 x2], [.iface t3 x3], [.iface t4 x4], [.iface t5 x5], [.iface t6 x6], [.iface t7 x7]]) := by kernel_rfl
theorem pcl (p : Po) (t : PT) : (AV.agg (prow p t)).cellsO = some (prow p t) := rfl
theorem rcl (x : Rl) (tok : Tok) (sz : Nat) (rows : List (List AV)) : (AV.agg (rrow x tok sz rows)).cellsO = some (rrow x tok sz rows) := rfl
theorem q28_0 (p : Po) (t : PT) : ((prow p t).drop 0).head? = some (.v (.string (bs p.name))) := rfl
theorem q28_1 (p : Po) (t : PT) : ((prow p t).drop 1).head? = some (.list t.tk t.sk (strs p.kinds)) := rfl
theorem q28_2 (p : Po) (t : PT) : ((prow p t).drop 2).head? = some (.list t.to t.so (strs p.offices)) := rfl
theorem q28_3 (p : Po) (t : PT) : ((prow p t).drop 3).head? = some (.list t.tr t.sr t.rr) := rfl
theorem q28_9 (p : Po) (t : PT) : ((prow p t).drop 9).head? = some (.v (.int .i64 p.mode)) := rfl
theorem q62_0 (x : Rl) (tok : Tok) (sz : Nat) (rows : List (List AV)) : ((rrow x tok sz rows).drop 0).head? = some (.v (.string (bs x.kind))) := rfl
theorem q62_2 (x : Rl) (tok : Tok) (sz : Nat) (rows : List (List AV)) : ((rrow x tok sz rows).drop 2).head? = some (.v (.int .i64 x.think)) := rfl
theorem q62_all (x : Rl) (tok : Tok) (sz : Nat) (rows : List (List AV)) : ((rrow x tok sz rows).drop 0).take 8 = rrow x tok sz rows := rfl
theorem q62_len (x : Rl) (tok : Tok) (sz : Nat) (rows : List (List AV)) : 8 ≤ ((rrow x tok sz rows).drop 0).length := Nat.le_refl 8
theorem modeL_get {n : Int} (h1 : 1 ≤ n) (h2 : n ≤ 4) : (strs modeL)[n.toNat]? = some [.v (.string (bs (modeS n)))] := by
 have : n = 1 ∨ n = 2 ∨ n = 3 ∨ n = 4 := by omega
 rcases this with rfl | rfl | rfl | rfl <;> rfl
theorem modeL_len : (strs modeL).length = 5 := rfl
def pre0 (p : Po) : List Tk := [wT kPolicy, nT p.name, wT cSemi, wT kMode, nT (modeS p.mode), wT cSemi]
def pre1 (p : Po) : List Tk := pre0 p ++ tokD kOffice p.offices
def pre2 (p : Po) : List Tk := pre1 p ++ tokD kKind p.kinds
def pre3 (p : Po) : List Tk := pre2 p ++ p.rules.flatMap tokR
theorem tokP_pre (p : Po) : tokP p = pre3 p ++ ([wT kChange, wT cEq] ++ (tokE p.change ++ [wT cSemi])) := by simp [tokP, pre3, pre2, pre1, pre0, List.append_assoc]
theorem tokP_pre2 (p : Po) : tokP p = pre2 p ++ (p.rules.flatMap tokR ++ ([wT kChange, wT cEq] ++ (tokE p.change ++ [wT cSemi]))) := by rw [tokP_pre, pre3, List.append_assoc]
theorem tokP_pre1 (p : Po) : tokP p = pre1 p ++ (tokD kKind p.kinds ++ (p.rules.flatMap tokR ++ ([wT kChange, wT cEq] ++ (tokE p.change ++ [wT cSemi])))) := by rw [tokP_pre2, pre2, List.append_assoc]
theorem tokP_pre0 (p : Po) : tokP p = pre0 p ++ (tokD kOffice p.offices ++ (tokD kKind p.kinds ++ (p.rules.flatMap tokR ++ ([wT kChange, wT cEq] ++ (tokE p.change ++ [wT cSemi]))))) := by rw [tokP_pre1, pre1, List.append_assoc]
theorem flat_take {α β : Type} {l : List α} (f : α → List β) {i : Nat} {x : α} (hx : l[i]? = some x) : (l.take (i + 1)).flatMap f = (l.take i).flatMap f ++ f x := by
 obtain ⟨hj, rfl⟩ := List.getElem?_eq_some_iff.1 hx
 rw [List.take_succ_eq_append_getElem hj, List.flatMap_append]
 simp
theorem flat_le {α β : Type} (l : List α) (f : α → List β) (i : Nat) : ((l.take i).flatMap f).length ≤ (l.flatMap f).length := by
 have : l.flatMap f = (l.take i).flatMap f ++ (l.drop i).flatMap f := by rw [← List.flatMap_append, List.take_append_drop]
 rw [this, List.length_append]
 omega
theorem policy_ev (b n0 : Nat) (p : Po) (t : PT) (hp : POk p t) (hm1 : 1 ≤ p.mode) (hm4 : p.mode ≤ 4) (l0 : List Tk) (h : Heap) (Wl : Wr b n0 l0 h) (hl : (l0 ++ tokP p).length ≤ 1000000000) : Writes 29 [.ptr (.box b) 0, .agg (prow p t)] b n0 h (l0 ++ tokP p) := by
 have a28 := ag28; have s28 := sz28; have z28 := zc28; have a62 := ag62; have s62 := sz62; have z62 := zc62; have a26 := ag26; have s26 := sz26; have a3 := ag3; have a9 := ag9; have a22 := ag22; have a23 := ag23
 have s9 := sz9; have s22 := sz22; have s23 := sz23
 have u22 := Tryz.underlying22; have u23 := Tryz.underlying23; have u160 := Tryz.underlying160
 have i9 := if9; have i104 := if104; have i3 := if3; have i26 := if26
 have W0 := Wl.push (prow p t)
 have nb := Wl.lt
 have hb0 := push_last h (prow p t)
 have lp0 := congrArg List.length (tokP_pre0 p)
 have lp1 := congrArg List.length (tokP_pre1 p)
 have lp2 := congrArg List.length (tokP_pre2 p)
 have lp3 := congrArg List.length (tokP_pre p)
 rw [List.length_append] at lp0 lp1 lp2 lp3 hl
 unfold Writes
 have hlen : (l0 ++ pre0 p).length ≤ 1000000000 := by rw [List.length_append]; omega
 obtain ⟨h1, c1, m1, W1⟩ := put_ev b n0 .tight [.word kPolicy, .name p.name, .word cSemi, .word kMode, .name (modeS p.mode), .word cSemi] (fun i hi => by
  simp only [List.mem_cons, List.not_mem_nil, or_false] at hi
  rcases hi with rfl | rfl | rfl | rfl | rfl | rfl <;> exact trivial) (by simp) l0 _ W0 (by
  have := hlen
  simpa [It.tk, pre0] using this)
 simp only [List.map_cons, List.map_nil, It.av, kPolicy, cSemi, kMode] at c1
 have hb1 := m1.box _ _ (by omega) hb0
 have nb1 := (List.getElem?_eq_some_iff.1 hb1).1
 have M1 := ((Mut.refl b n0 h).push (prow p t)).trans m1
 have kW1 : Keep (Wr b n0 (l0 ++ (pre0 p ++ (p.offices.take 0).flatMap fun x => [wT kOffice, nT x, wT cSemi])) h1) := .mk (by
  have := W1
  simpa [It.tk, pre0] using this)
 have kM1 := Keep.mk M1
 have kb1 := Keep.mk hb1
 have kp := Keep.mk hp
 have hml := modeL_get hm1 hm4
 have hm0 : 0 ≤ p.mode := by omega
 have hm5 : p.mode < ((strs modeL).length : Int) := by rw [modeL_len]; omega
 have cm := modes_ev
 have hrl := hp.rules.1
 have hol := strs_len p.offices
 have hkl := strs_len p.kinds
 have hbo := hp.bo; have hbk := hp.bk; have hbr := hp.br
 clear W1 m1 M1 W0 Wl hm1 hm4 hp hlen
 refine call_ex rfl Tryz.func29 rfl ?_
 repeat' (first | simp (config := { maxSteps := 4000000 }) (disch := first | exact dZ | fail) only [goS, append_gt, append_gt_yes, plainEv, resultsEv, resultListEv, reduceIte, Nat.reduceEqDiff, goT, beq_self_eq_true, goH, goU, rs29, pcl, fp28, q28_0, q28_1, q28_2, q28_3, q28_9, bp3, bp4, bp6, bp7, push_len, index_list, load_row, load28_4, cell_one, hb0, *] | (refine dX ?_ ?_ <;> (intro _; try (exfalso; omega))) | (refine dY ?_ ?_ <;> intro _) | fail)
 refine run_draw_but [(3, 7), (7, 9)] (by kernel_rfl) ?_ ?_
 ·intro pr hpr
  simp only [List.mem_cons, List.not_mem_nil, or_false] at hpr
  rcases hpr with rfl | rfl
  ·refine stable_before (x := .ptr (.box h.boxes.length) 0) (v := .v (.string (bs p.name))) (by kernel_rfl) rfl rfl rfl (by kernel_rfl) (by simp [sameAV, sameV]) ?_ ?_
   ·simp only [List.take_succ_cons, List.take_zero]
    repeat' (first | simp (config := { maxSteps := 4000000 }) (disch := first | exact dZ | fail) only [goS, append_gt, append_gt_yes, plainEv, resultsEv, resultListEv, reduceIte, Nat.reduceEqDiff, goT, beq_self_eq_true, goH, goU, rs29, pcl, fp28, q28_0, q28_1, q28_2, q28_3, q28_9, bp3, bp4, bp6, bp7, push_len, index_list, load_row, load28_4, cell_one, hb0, and_self, *] | (refine dX ?_ ?_ <;> (intro _; try (exfalso; omega))) | (refine dY ?_ ?_ <;> intro _) | fail)
   ·simp only [List.take_succ_cons, List.take_zero]
    repeat' (first | simp (config := { maxSteps := 4000000 }) (disch := first | exact dZ | fail) only [goS, append_gt, append_gt_yes, plainEv, resultsEv, resultListEv, reduceIte, Nat.reduceEqDiff, goT, beq_self_eq_true, goH, goU, rs29, pcl, fp28, q28_0, q28_1, q28_2, q28_3, q28_9, bp3, bp4, bp6, bp7, push_len, index_list, load_row, load28_4, cell_one, hb0, and_self, *] | (refine dX ?_ ?_ <;> (intro _; try (exfalso; omega))) | (refine dY ?_ ?_ <;> intro _) | fail)
  ·refine stable_behind (x := .ptr (.box h.boxes.length) 9) (v := .v (.int .i64 p.mode)) (by kernel_rfl) rfl rfl rfl (by kernel_rfl) (by simp [sameAV, sameV]) ?_ ?_
   ·simp only [List.take_succ_cons, List.take_zero]
    repeat' (first | simp (config := { maxSteps := 4000000 }) (disch := first | exact dZ | fail) only [goS, append_gt, append_gt_yes, plainEv, resultsEv, resultListEv, reduceIte, Nat.reduceEqDiff, goT, beq_self_eq_true, goH, goU, rs29, pcl, fp28, q28_0, q28_1, q28_2, q28_3, q28_9, bp3, bp4, bp6, bp7, push_len, index_list, load_row, load28_4, cell_one, hb0, and_self, *] | (refine dX ?_ ?_ <;> (intro _; try (exfalso; omega))) | (refine dY ?_ ?_ <;> intro _) | fail)
   ·simp only [List.take_succ_cons, List.take_zero]
    repeat' (first | simp (config := { maxSteps := 4000000 }) (disch := first | exact dZ | fail) only [goS, append_gt, append_gt_yes, plainEv, resultsEv, resultListEv, reduceIte, Nat.reduceEqDiff, goT, beq_self_eq_true, goH, goU, rs29, pcl, fp28, q28_0, q28_1, q28_2, q28_3, q28_9, bp3, bp4, bp6, bp7, push_len, index_list, load_row, load28_4, cell_one, hb0, and_self, *] | (refine dX ?_ ?_ <;> (intro _; try (exfalso; omega))) | (refine dY ?_ ?_ <;> intro _) | fail)
 repeat' (first | simp (config := { maxSteps := 4000000 }) (disch := first | exact dZ | fail) only [goS, append_gt, append_gt_yes, plainEv, resultsEv, resultListEv, reduceIte, Nat.reduceEqDiff, goT, beq_self_eq_true, goH, goU, rs29, pcl, fp28, q28_0, q28_1, q28_2, q28_3, q28_9, bp3, bp4, bp6, bp7, push_len, index_list, load_row, load28_4, cell_one, *] | (refine dX ?_ ?_ <;> (intro _; try (exfalso; omega))) | (refine dY ?_ ?_ <;> intro _) | fail)
 refine run_loop (fun m e h' => ∃ (i : Nat), i ≤ p.offices.length ∧ m = p.offices.length - i ∧ e.get 0 = .ptr (.box b) 0 ∧ e.get 3 = .ptr (.box h.boxes.length) 0 ∧ e.get 27 = .list t.to t.so (strs p.offices) ∧ e.get 28 = .v (.int .i64 (p.offices.length : Nat)) ∧ e.get 29 = .v (.int .i64 i) ∧ e.defers = [] ∧ Mut b n0 h h' ∧ h'.boxes[h.boxes.length]? = some (prow p t) ∧ Wr b n0 (l0 ++ (pre0 p ++ (p.offices.take i).flatMap fun x => [wT kOffice, nT x, wT cSemi])) h') ?_ p.offices.length _ _ ?_
 rotate_left 1
 ·refine ⟨0, Nat.zero_le _, rfl, ?_, ?_, ?_, ?_, ?_, ?_, kM1.out, kb1.out, kW1.out⟩ <;> (first | assumption | (simp only [goS, append_gt, append_gt_yes, plainEv, resultsEv, resultListEv, reduceIte, Nat.reduceEqDiff, goT, beq_self_eq_true, goH, hol] <;> rfl))
 rintro m e h' ⟨i, hi, rfl, g0, g3, g4, g5, g6, hd, hm, hbx, hW⟩
 have nbx := (List.getElem?_eq_some_iff.1 hbx).1
 have km := Keep.mk hm
 have kbx := Keep.mk hbx
 by_cases hlt : i < p.offices.length
 ·obtain ⟨s, hs⟩ : ∃ s, p.offices[i]? = some s := ⟨_, List.getElem?_eq_getElem hlt⟩
  have hsr : (strs p.offices)[i]? = some [.v (.string (bs s))] := by rw [strs_get, hs]; rfl
  have hsz := kp.out.zo i hlt
  have hlt3 : (i : Int) < ((strs p.offices).length : Int) := by rw [strs_len]; omega
  have hlt4 : (i : Int) < (p.offices.length : Int) := by omega
  have hft := flat_take (fun x => [wT kOffice, nT x, wT cSemi]) hs
  have hfl := flat_le p.offices (fun x => [wT kOffice, nT x, wT cSemi]) (i + 1)
  have hfd : (tokD kOffice p.offices).length = (p.offices.flatMap fun x => [wT kOffice, nT x, wT cSemi]).length := rfl
  have hbd : (l0 ++ (pre0 p ++ (p.offices.take (i + 1)).flatMap fun x => [wT kOffice, nT x, wT cSemi])).length ≤ 1000000000 := by
   simp only [List.length_append] at lp0 lp1 lp2 lp3 ⊢
   omega
  obtain ⟨h3, c3, m3, W3⟩ := put_ev b n0 .tight [.word kOffice, .name s, .word cSemi] (fun i hi => by
   simp only [List.mem_cons, List.not_mem_nil, or_false] at hi
   rcases hi with rfl | rfl | rfl <;> exact trivial) (by simp) _ _ hW (by
   rw [hft] at hbd
   simpa [It.tk, List.append_assoc] using hbd)
  simp only [List.map_cons, List.map_nil, It.av, kOffice, cSemi] at c3
  have hbx3 := m3.box _ _ (by omega) hbx
  have kM3 := Keep.mk (hm.trans m3)
  have kb3 := Keep.mk hbx3
  have kW3 := Keep.mk W3
  have kft := Keep.mk hft
  clear hm hW W3 m3 hbd hfl hft hs hfd lp0 lp1 lp2 lp3 hl hbx3
  repeat' (first | simp (config := { maxSteps := 4000000 }) (disch := first | exact dZ | fail) only [goS, append_gt, append_gt_yes, plainEv, resultsEv, resultListEv, reduceIte, Nat.reduceEqDiff, goT, beq_self_eq_true, goH, goU, rs29, pcl, fp28, q28_0, q28_1, q28_2, q28_3, q28_9, bp3, bp4, bp6, bp7, push_len, index_list, load_row, load28_4, cell_one, *] | (refine dX ?_ ?_ <;> (intro _; try (exfalso; omega))) | (refine dY ?_ ?_ <;> intro _) | fail)
  refine ⟨p.offices.length - (i + 1), by omega, i + 1, by omega, rfl, (by first | trivial | (simp; done) | (simp; omega)), (by first | trivial | (simp; done) | (simp; omega)), (by first | trivial | (simp; done) | (simp; omega)), (by first | trivial | (simp; done) | (simp; omega)), (by first | trivial | (simp; done) | (simp; omega)), (by first | trivial | (simp; done) | (simp; omega)), kM3.out, kb3.out, ?_⟩
  have := kW3.out
  rw [kft.out]
  simpa [It.tk, List.append_assoc] using this
 have hie : i = p.offices.length := by omega
 subst hie
 have hlt4 : ¬ ((p.offices.length : Int) < (p.offices.length : Int)) := by omega
 have kM2 := km
 have kb2 := kbx
 have kW2 : Keep (Wr b n0 (l0 ++ (pre1 p ++ (p.kinds.take 0).flatMap fun x => [wT kKind, nT x, wT cSemi])) h') := .mk (by
  rw [List.take_length] at hW
  simpa [pre1, tokD] using hW)
 clear hm hW km kM1 kb1 kW1 c1 hbx hi hb1 nb1 hml hm0 hm5 cm kbx hb0
 have hbx := kb2.out
 repeat' (first | simp (config := { maxSteps := 4000000 }) (disch := first | exact dZ | fail) only [goS, append_gt, append_gt_yes, plainEv, resultsEv, resultListEv, reduceIte, Nat.reduceEqDiff, goT, beq_self_eq_true, goH, goU, rs29, pcl, fp28, q28_0, q28_1, q28_2, q28_3, q28_9, bp3, bp4, bp6, bp7, push_len, index_list, load_row, load28_4, cell_one, *] | (refine dX ?_ ?_ <;> (intro _; try (exfalso; omega))) | (refine dY ?_ ?_ <;> intro _) | fail)
 refine run_loop (fun m e h' => ∃ (i : Nat), i ≤ p.kinds.length ∧ m = p.kinds.length - i ∧ e.get 0 = .ptr (.box b) 0 ∧ e.get 3 = .ptr (.box h.boxes.length) 0 ∧ e.get 42 = .list t.tk t.sk (strs p.kinds) ∧ e.get 43 = .v (.int .i64 (p.kinds.length : Nat)) ∧ e.get 44 = .v (.int .i64 i) ∧ e.defers = [] ∧ Mut b n0 h h' ∧ h'.boxes[h.boxes.length]? = some (prow p t) ∧ Wr b n0 (l0 ++ (pre1 p ++ (p.kinds.take i).flatMap fun x => [wT kKind, nT x, wT cSemi])) h') ?_ p.kinds.length _ _ ?_
 rotate_left 1
 ·refine ⟨0, Nat.zero_le _, rfl, ?_, ?_, ?_, ?_, ?_, ?_, kM2.out, kb2.out, kW2.out⟩ <;> (first | assumption | (simp only [goS, append_gt, append_gt_yes, plainEv, resultsEv, resultListEv, reduceIte, Nat.reduceEqDiff, goT, beq_self_eq_true, goH, hkl] <;> rfl))
 rintro m e h' ⟨i, hi, rfl, g0, g3, g4, g5, g6, hd, hm, hbx, hW⟩
 have nbx := (List.getElem?_eq_some_iff.1 hbx).1
 have km := Keep.mk hm
 have kbx := Keep.mk hbx
 by_cases hlt : i < p.kinds.length
 ·obtain ⟨s, hs⟩ : ∃ s, p.kinds[i]? = some s := ⟨_, List.getElem?_eq_getElem hlt⟩
  have hsr : (strs p.kinds)[i]? = some [.v (.string (bs s))] := by rw [strs_get, hs]; rfl
  have hsz := kp.out.zk i hlt
  have hlt3 : (i : Int) < ((strs p.kinds).length : Int) := by rw [strs_len]; omega
  have hlt4 : (i : Int) < (p.kinds.length : Int) := by omega
  have hft := flat_take (fun x => [wT kKind, nT x, wT cSemi]) hs
  have hfl := flat_le p.kinds (fun x => [wT kKind, nT x, wT cSemi]) (i + 1)
  have hfd : (tokD kKind p.kinds).length = (p.kinds.flatMap fun x => [wT kKind, nT x, wT cSemi]).length := rfl
  have hbd : (l0 ++ (pre1 p ++ (p.kinds.take (i + 1)).flatMap fun x => [wT kKind, nT x, wT cSemi])).length ≤ 1000000000 := by
   simp only [List.length_append] at lp0 lp1 lp2 lp3 ⊢
   omega
  obtain ⟨h3, c3, m3, W3⟩ := put_ev b n0 .tight [.word kKind, .name s, .word cSemi] (fun i hi => by
   simp only [List.mem_cons, List.not_mem_nil, or_false] at hi
   rcases hi with rfl | rfl | rfl <;> exact trivial) (by simp) _ _ hW (by
   rw [hft] at hbd
   simpa [It.tk, List.append_assoc] using hbd)
  simp only [List.map_cons, List.map_nil, It.av, kKind, cSemi] at c3
  have hbx3 := m3.box _ _ (by omega) hbx
  have kM3 := Keep.mk (hm.trans m3)
  have kb3 := Keep.mk hbx3
  have kW3 := Keep.mk W3
  have kft := Keep.mk hft
  clear hm hW W3 m3 hbd hfl hft hs hfd lp0 lp1 lp2 lp3 hl hbx3
  repeat' (first | simp (config := { maxSteps := 4000000 }) (disch := first | exact dZ | fail) only [goS, append_gt, append_gt_yes, plainEv, resultsEv, resultListEv, reduceIte, Nat.reduceEqDiff, goT, beq_self_eq_true, goH, goU, rs29, pcl, fp28, q28_0, q28_1, q28_2, q28_3, q28_9, bp3, bp4, bp6, bp7, push_len, index_list, load_row, load28_4, cell_one, *] | (refine dX ?_ ?_ <;> (intro _; try (exfalso; omega))) | (refine dY ?_ ?_ <;> intro _) | fail)
  refine ⟨p.kinds.length - (i + 1), by omega, i + 1, by omega, rfl, (by first | trivial | (simp; done) | (simp; omega)), (by first | trivial | (simp; done) | (simp; omega)), (by first | trivial | (simp; done) | (simp; omega)), (by first | trivial | (simp; done) | (simp; omega)), (by first | trivial | (simp; done) | (simp; omega)), (by first | trivial | (simp; done) | (simp; omega)), kM3.out, kb3.out, ?_⟩
  have := kW3.out
  rw [kft.out]
  simpa [It.tk, List.append_assoc] using this
 have hie : i = p.kinds.length := by omega
 subst hie
 have hlt4 : ¬ ((p.kinds.length : Int) < (p.kinds.length : Int)) := by omega
 have kM3 := km
 have kb3 := kbx
 have kW3 : Keep (Wr b n0 (l0 ++ (pre2 p ++ (p.rules.take 0).flatMap tokR)) h') := .mk (by
  rw [List.take_length] at hW
  simpa [pre2, tokD] using hW)
 clear hm hW km kM2 kb2 kW2 hi kbx hbx
 have hbx := kb3.out
 repeat' (first | simp (config := { maxSteps := 4000000 }) (disch := first | exact dZ | fail) only [goS, append_gt, append_gt_yes, plainEv, resultsEv, resultListEv, reduceIte, Nat.reduceEqDiff, goT, beq_self_eq_true, goH, goU, rs29, pcl, fp28, q28_0, q28_1, q28_2, q28_3, q28_9, bp3, bp4, bp6, bp7, push_len, index_list, load_row, load28_4, cell_one, *] | (refine dX ?_ ?_ <;> (intro _; try (exfalso; omega))) | (refine dY ?_ ?_ <;> intro _) | fail)
 refine run_loop (fun m e h' => ∃ (i : Nat), i ≤ p.rules.length ∧ m = p.rules.length - i ∧ e.get 0 = .ptr (.box b) 0 ∧ e.get 3 = .ptr (.box h.boxes.length) 0 ∧ e.get 57 = .list t.tr t.sr t.rr ∧ e.get 58 = .v (.int .i64 (p.rules.length : Nat)) ∧ e.get 59 = .v (.int .i64 i) ∧ e.defers = [] ∧ Mut b n0 h h' ∧ h'.boxes[h.boxes.length]? = some (prow p t) ∧ Wr b n0 (l0 ++ (pre2 p ++ (p.rules.take i).flatMap tokR)) h') ?_ p.rules.length _ _ ?_
 rotate_left 1
 ·refine ⟨0, Nat.zero_le _, rfl, ?_, ?_, ?_, ?_, ?_, ?_, kM3.out, kb3.out, kW3.out⟩ <;> (first | assumption | (simp only [goS, append_gt, append_gt_yes, plainEv, resultsEv, resultListEv, reduceIte, Nat.reduceEqDiff, goT, beq_self_eq_true, goH, hrl] <;> rfl))
 rintro m e h' ⟨i, hi, rfl, g0, g3, g4, g5, g6, hd, hm, hbx, hW⟩
 have nbx := (List.getElem?_eq_some_iff.1 hbx).1
 have nbw := hW.lt
 have km := Keep.mk hm
 have kbx := Keep.mk hbx
 by_cases hlt : i < p.rules.length
 ·obtain ⟨x, hx⟩ : ∃ x, p.rules[i]? = some x := ⟨_, List.getElem?_eq_getElem hlt⟩
  obtain ⟨r, hr⟩ : ∃ r, t.rr[i]? = some r := ⟨_, List.getElem?_eq_getElem (by rw [hrl]; exact hlt)⟩
  obtain ⟨tok, sz, rows, rfl, hrx⟩ := RRow.inv (kp.out.rules.2 i _ _ hx hr)
  have hsz := kp.out.zr i hlt
  have hlt3 : (i : Int) < (t.rr.length : Int) := by rw [hrl]; omega
  have hlt4 : (i : Int) < (p.rules.length : Int) := by omega
  have hft := flat_take tokR hx
  have hfl := flat_le p.rules tokR (i + 1)
  have hbd : (l0 ++ (pre2 p ++ (p.rules.take (i + 1)).flatMap tokR)).length ≤ 1000000000 := by
   simp only [List.length_append] at lp0 lp1 lp2 lp3 ⊢
   omega
  have hE := writes_expr x.expr
  have hrl5 : Row x.expr (r5 x tok sz rows) := hrx
  obtain ⟨h3, c3, m3, W3⟩ := put_ev b n0 .tight [.word kRule, .name x.kind, .word kThink, .num x.think, .word cEq, .ex x.expr (r5 x tok sz rows), .word cSemi] (fun i hi => by
   simp only [List.mem_cons, List.not_mem_nil, or_false] at hi
   rcases hi with rfl | rfl | rfl | rfl | rfl | rfl | rfl
   ·exact trivial
   ·exact trivial
   ·exact trivial
   ·exact trivial
   ·exact trivial
   ·exact ⟨hE, _, _, _, rfl, hrx⟩
   ·exact trivial) (by simp) _ _ (hW.push (rrow x tok sz rows)) (by
   rw [hft] at hbd
   simpa [It.tk, tokR, List.append_assoc] using hbd)
  simp only [List.map_cons, List.map_nil, It.av, kRule, kThink, cEq, cSemi] at c3
  have hbx3 := m3.box _ _ (by omega) (push_old (cs := rrow x tok sz rows) hbx)
  have kM3 := Keep.mk ((hm.push (rrow x tok sz rows)).trans m3)
  have kb3 := Keep.mk hbx3
  have kW3 := Keep.mk W3
  have kft := Keep.mk hft
  have hlast := push_last h' (rrow x tok sz rows)
  clear hm hW W3 m3 hbd hfl hft hx lp0 lp1 lp2 lp3 hl hbx3 hrx hrl5 hE
  repeat' (first | simp (config := { maxSteps := 4000000 }) (disch := first | exact dZ | fail) only [goS, append_gt, append_gt_yes, plainEv, resultsEv, resultListEv, reduceIte, Nat.reduceEqDiff, goT, beq_self_eq_true, goH, goU, rs29, pcl, fp28, q28_0, q28_1, q28_2, q28_3, q28_9, bp3, bp4, bp6, bp7, push_len, index_list, load_row, load28_4, cell_one, rcl, fp62, q62_0, q62_2, q62_all, q62_len, load62_3, st62, put_push_eq, load_row_agg, *] | (refine dX ?_ ?_ <;> (intro _; try (exfalso; omega))) | (refine dY ?_ ?_ <;> intro _) | fail)
  refine ⟨p.rules.length - (i + 1), by omega, i + 1, by omega, rfl, (by first | trivial | (simp; done) | (simp; omega)), (by first | trivial | (simp; done) | (simp; omega)), (by first | trivial | (simp; done) | (simp; omega)), (by first | trivial | (simp; done) | (simp; omega)), (by first | trivial | (simp; done) | (simp; omega)), (by first | trivial | (simp; done) | (simp; omega)), kM3.out, kb3.out, ?_⟩
  have := kW3.out
  rw [kft.out]
  simpa [It.tk, tokR, List.append_assoc] using this
 have hie : i = p.rules.length := by omega
 subst hie
 have hlt4 : ¬ ((p.rules.length : Int) < (p.rules.length : Int)) := by omega
 rw [List.take_length] at hW
 have hbd : ((l0 ++ (pre2 p ++ p.rules.flatMap tokR)) ++ ([wT kChange, wT cEq] ++ (tokE p.change ++ [wT cSemi]))).length ≤ 1000000000 := by
  simp only [List.length_append] at lp0 lp1 lp2 lp3 ⊢
  omega
 have hrc := kp.out.expr
 obtain ⟨h3, c3, m3, W3⟩ := put_ev b n0 .tight [.word kChange, .word cEq, .ex p.change (p5 p t), .word cSemi] (fun i hi => by
  simp only [List.mem_cons, List.not_mem_nil, or_false] at hi
  rcases hi with rfl | rfl | rfl | rfl
  ·exact trivial
  ·exact trivial
  ·exact ⟨writes_expr p.change, _, _, _, rfl, hrc⟩
  ·exact trivial) (by simp) _ _ hW (by simpa [It.tk, List.append_assoc] using hbd)
 simp only [List.map_cons, List.map_nil, It.av, kChange, cEq, cSemi] at c3
 have kM := Keep.mk (hm.trans m3)
 have kW := Keep.mk W3
 clear hm hW W3 m3 hbd lp0 lp1 lp2 lp3 hl hrc
 repeat' (first | simp (config := { maxSteps := 4000000 }) (disch := first | exact dZ | fail) only [goS, append_gt, append_gt_yes, plainEv, resultsEv, resultListEv, reduceIte, Nat.reduceEqDiff, goT, beq_self_eq_true, goH, goU, rs29, pcl, fp28, q28_0, q28_1, q28_2, q28_3, q28_9, bp3, bp4, bp6, bp7, push_len, index_list, load_row, load28_4, cell_one, *] | (refine dX ?_ ?_ <;> (intro _; try (exfalso; omega))) | (refine dY ?_ ?_ <;> intro _) | fail)
 refine ⟨_, rfl, kM.out, ?_⟩
 have := kW.out
 rw [tokP_pre, pre3]
 simpa [It.tk, List.append_assoc] using this
end Go.Proofs.YtmdakolcndpjeaaGreatDoor
end
