/-
 Part of the proof: SN.
-/
import Derived.Test.YtmdakolcndpjeaaGreatDoorSD
import Derived.Test.YtmdakolcndpjeaaGreatDoorE4
import Derived.Test.YtmdakolcndpjeaaGreatDoorSL
set_option maxHeartbeats 64000000
set_option maxRecDepth 100000
set_option linter.unusedSimpArgs false
set_option linter.unusedVariables false
set_option linter.constructorNameAsVariable false
section
namespace Go.Proofs.YtmdakolcndpjeaaGreatDoor
open Go.AE Go.Lex
theorem toks_rows (l : List Tk) : ∀ r ∈ toks l, r.length = 4 := by
 intro r hr
 obtain ⟨t, -, rfl⟩ := List.mem_map.1 hr
 rfl
theorem ld_tok {H : Heap} {c i : Nat} {L : List Tk} {t : Tk} (hb : H.boxes[c]? = some (toks L).flatten) (ht : L[i]? = some t) : loadEv Tryz.prog Gt H 43 (.ptr (.box c) (i * 4)) = some (.agg t.row) := by
 have hi := (List.getElem?_eq_some_iff.1 ht).1
 have hr : (toks L)[i]? = some t.row := by rw [toks_get, ht]; rfl
 have hf := flatten_length (toks_rows L)
 rw [toks_len] at hf
 rw [load_agg ag43 sz43 hb (by omega), flatten_row (toks_rows L) hr]
theorem textA_ev (c cap : Nat) (l l2 : List Tk) (hl : l.length ≤ 1048576) (h : Heap) (hc : h.boxes[c]? = some (toks (l ++ l2)).flatten) : Says W 17 [.arr c 0 l.length cap] h (.ret (textB l)) := by
 have u40 : Tryz.prog.underlying 22 = some (.slice 9) := by kernel_rfl
 have u9 := Tryz.underlying9; have u39 := Tryz.underlying39; have a3 := ag3; have a9 := ag9; have s35 := sz43; have a35 := ag43; have s9 := sz9
 refine call_ex rfl Tryz.func17 rfl ?_
 repeat' (first | (simp (config := { maxSteps := 4000000 }) (disch := first | assumption | omega | (simp only [lenL] <;> omega)) only [goS, append_gt, append_gt_yes, plainEv, resultsEv, resultListEv, reduceIte, Nat.reduceEqDiff, goT, beq_self_eq_true, res16, toks_len, make22, *]; done) | simp (config := { maxSteps := 4000000 }) (disch := first | assumption | omega | (simp only [lenL]; omega)) only [goS, append_gt, append_gt_yes, plainEv, resultsEv, resultListEv, reduceIte, Nat.reduceEqDiff, goT, beq_self_eq_true, res16, toks_len, make22, *] | ((first | refine G_d ?_ ?_ | refine G_n ?_ ?_ | refine B_d ?_ ?_ | refine B_n ?_ ?_) <;> (intro _; try (exfalso; omega))) | refine run_draw (by kernel_rfl) ?_ | ((first | refine G_m ?_ ?_ | refine B_m ?_ ?_ | refine G_b ?_ ?_ | refine B_b ?_ ?_) <;> intro _))
 refine run_loop (fun m e h' => ∃ i : Nat, i ≤ l.length ∧ m = l.length - i ∧ e.get 4 = .arr h.boxes.length 0 l.length l.length ∧ e.get 10 = .arr c 0 l.length cap ∧ e.get 11 = .v (.int .i64 l.length) ∧ e.get 12 = .v (.int .i64 i) ∧ e.defers = [] ∧ Ext h h' ∧
  h'.boxes[h.boxes.length]? = some (wordsAt l i) ∧ ∀ t ∈ l.take i, validB t = true) ?_ l.length _ _ ?_
 ·rintro m e h' ⟨i, hi, rfl, g4, g10, g11, g12, hd, hx', hB, hno⟩
  have hk := Keep.mk hno
  have hk2 := Keep.mk hx'
  have hk3 := Keep.mk hB
  have hwl := wordsAt_len hi
  by_cases hlt : i < l.length
  ·have hB0 := hx'.box _ _ hc
   obtain ⟨t, ht⟩ : ∃ t, l[i]? = some t := ⟨_, List.getElem?_eq_getElem hlt⟩
   have hlt3 : (i : Int) < (l.length : Int) := by omega
   have hld : ∀ H : Heap, H.boxes[c]? = some (toks (l ++ l2)).flatten → loadEv Tryz.prog Gt H 43 (.ptr (.box c) (i * 4)) = some (.agg t.row) := fun H hb => ld_tok hb (by rw [List.getElem?_append_left hlt]; exact ht)
   have hB2 : ((h'.push t.row).push t.row).boxes[h.boxes.length]? = some (wordsAt l i) := push_old (push_old hB)
   have r1 := row_cells t
   have r3 := row_len t
   have r5 := row_len Tk.zero
   have hk4 : Keep (validB t = true → ∀ u ∈ l.take (i + 1), validB u = true) := .mk (by
    intro hv u hu
    obtain ⟨hi2, rfl⟩ := List.getElem?_eq_some_iff.1 ht
    rw [List.take_succ_eq_append_getElem hi2] at hu
    rcases List.mem_append.1 hu with h1 | h1
    ·exact hk.out u h1
    ·simp at h1; subst h1; exact hv)
   clear hno hx' hB
   by_cases hv : validB t = true
   ·by_cases h2 : t.kind = 2
    ·have hn : ∃ n : Nat, t.n = n ∧ n ≤ 9223372036854775807 := by
      refine ⟨t.n.toNat, ?_, ?_⟩ <;> (simp [validB, h2] at hv; omega)
     obtain ⟨n, hn1, hn2⟩ := hn
     have htx : textOf t = Lib.decDigits n := by rw [textOf, if_pos h2, hn1]; rfl
     have hw : (AV.v (.string (bs (Lib.decDigits n)))).cellsO = some [word t] := by rw [word, htx]; rfl
     have hst := store_box (P := Tryz.prog) (off := i) hw s9 hB2 rfl (by rw [hwl]; omega)
     rw [wordsAt_step ht] at hst
     clear hw
     clear htx
     repeat' (first | (simp (config := { maxSteps := 4000000 }) (disch := first | assumption | omega | (simp only [lenL] <;> omega)) only [goS, append_gt, append_gt_yes, plainEv, resultsEv, resultListEv, reduceIte, Nat.reduceEqDiff, goT, beq_self_eq_true, res16, toks_len, toks_get, index_arr, hld, zero43, box_push, store_push, load_push_agg, load_push2_agg, load_push2, fa43_0, fa43_1, fa43_2, row_drop, row_take, row_len, row_head, Nat.add_zero, Nat.mul_one, drop0, drop1, drop2, Nat.zero_add, Nat.le_refl, valid_ev, itoa_ev, *]; done) | simp (config := { maxSteps := 4000000 }) (disch := first | assumption | omega | (simp only [lenL]; omega)) only [goS, append_gt, append_gt_yes, plainEv, resultsEv, resultListEv, reduceIte, Nat.reduceEqDiff, goT, beq_self_eq_true, res16, toks_len, toks_get, index_arr, hld, zero43, box_push, store_push, load_push_agg, load_push2_agg, load_push2, fa43_0, fa43_1, fa43_2, row_drop, row_take, row_len, row_head, Nat.add_zero, Nat.mul_one, drop0, drop1, drop2, Nat.zero_add, Nat.le_refl, valid_ev, itoa_ev, *] | ((first | refine G_d ?_ ?_ | refine G_n ?_ ?_ | refine B_d ?_ ?_ | refine B_n ?_ ?_) <;> (intro _; try (exfalso; omega))) | refine run_draw (by kernel_rfl) ?_ | ((first | refine G_m ?_ ?_ | refine B_m ?_ ?_ | refine G_b ?_ ?_ | refine B_b ?_ ?_) <;> intro _))
     exact ⟨l.length - (i + 1), by omega, i + 1, by omega, rfl, trivial, trivial, trivial, by simp, trivial, ext_put ((hk2.out.trans (.push _ _)).trans (.push _ _)) (Nat.le_refl _) _,
      put_this (List.getElem?_eq_some_iff.1 hB2).1, hk4.out hv⟩
    ·have htx : textOf t = t.text := by rw [textOf, if_neg h2]
     have hw : (AV.v (.string (bs t.text))).cellsO = some [word t] := by rw [word, htx]; rfl
     have hst := store_box (P := Tryz.prog) (off := i) hw s9 hB2 rfl (by rw [hwl]; omega)
     rw [wordsAt_step ht] at hst
     clear hw
     clear htx
     repeat' (first | (simp (config := { maxSteps := 4000000 }) (disch := first | assumption | omega | (simp only [lenL] <;> omega)) only [goS, append_gt, append_gt_yes, plainEv, resultsEv, resultListEv, reduceIte, Nat.reduceEqDiff, goT, beq_self_eq_true, res16, toks_len, toks_get, index_arr, hld, zero43, box_push, store_push, load_push_agg, load_push2_agg, load_push2, fa43_0, fa43_1, fa43_2, row_drop, row_take, row_len, row_head, Nat.add_zero, Nat.mul_one, drop0, drop1, drop2, Nat.zero_add, Nat.le_refl, valid_ev, itoa_ev, *]; done) | simp (config := { maxSteps := 4000000 }) (disch := first | assumption | omega | (simp only [lenL]; omega)) only [goS, append_gt, append_gt_yes, plainEv, resultsEv, resultListEv, reduceIte, Nat.reduceEqDiff, goT, beq_self_eq_true, res16, toks_len, toks_get, index_arr, hld, zero43, box_push, store_push, load_push_agg, load_push2_agg, load_push2, fa43_0, fa43_1, fa43_2, row_drop, row_take, row_len, row_head, Nat.add_zero, Nat.mul_one, drop0, drop1, drop2, Nat.zero_add, Nat.le_refl, valid_ev, itoa_ev, *] | ((first | refine G_d ?_ ?_ | refine G_n ?_ ?_ | refine B_d ?_ ?_ | refine B_n ?_ ?_) <;> (intro _; try (exfalso; omega))) | refine run_draw (by kernel_rfl) ?_ | ((first | refine G_m ?_ ?_ | refine B_m ?_ ?_ | refine G_b ?_ ?_ | refine B_b ?_ ?_) <;> intro _))
     exact ⟨l.length - (i + 1), by omega, i + 1, by omega, rfl, trivial, trivial, trivial, by simp, trivial, ext_put ((hk2.out.trans (.push _ _)).trans (.push _ _)) (Nat.le_refl _) _,
      put_this (List.getElem?_eq_some_iff.1 hB2).1, hk4.out hv⟩
   ·have hv : validB t = false := by simpa using hv
    repeat' (first | (simp (config := { maxSteps := 4000000 }) (disch := first | assumption | omega | (simp only [lenL] <;> omega)) only [goS, append_gt, append_gt_yes, plainEv, resultsEv, resultListEv, reduceIte, Nat.reduceEqDiff, goT, beq_self_eq_true, res16, toks_len, toks_get, index_arr, hld, zero43, box_push, store_push, load_push_agg, load_push2_agg, load_push2, fa43_0, fa43_1, fa43_2, row_drop, row_take, row_len, row_head, Nat.add_zero, Nat.mul_one, drop0, drop1, drop2, Nat.zero_add, Nat.le_refl, valid_ev, itoa_ev, *]; done) | simp (config := { maxSteps := 4000000 }) (disch := first | assumption | omega | (simp only [lenL]; omega)) only [goS, append_gt, append_gt_yes, plainEv, resultsEv, resultListEv, reduceIte, Nat.reduceEqDiff, goT, beq_self_eq_true, res16, toks_len, toks_get, index_arr, hld, zero43, box_push, store_push, load_push_agg, load_push2_agg, load_push2, fa43_0, fa43_1, fa43_2, row_drop, row_take, row_len, row_head, Nat.add_zero, Nat.mul_one, drop0, drop1, drop2, Nat.zero_add, Nat.le_refl, valid_ev, itoa_ev, *] | ((first | refine G_d ?_ ?_ | refine G_n ?_ ?_ | refine B_d ?_ ?_ | refine B_n ?_ ?_) <;> (intro _; try (exfalso; omega))) | refine run_draw (by kernel_rfl) ?_ | ((first | refine G_m ?_ ?_ | refine B_m ?_ ?_ | refine G_b ?_ ?_ | refine B_b ?_ ?_) <;> intro _))
    refine answerA ?_ ((hk2.out.trans (.push h' t.row)).trans (.push _ t.row))
    have : l.all validB = false := by
     rw [Bool.eq_false_iff]
     intro ha
     have := List.all_eq_true.1 ha t (List.mem_of_getElem? ht)
     rw [hv] at this; cases this
    rw [textB, this]
    rfl
  ·have hie : i = l.length := by omega
   subst hie
   have hall : ∀ u ∈ l, validB u = true := fun u hu => hno u (by rw [List.take_length]; exact hu)
   have hk6 : l.all validB = true := List.all_eq_true.2 hall
   have hj := joinS_len hall
   have hje := join_ev l h' h.boxes.length hB (by omega) (by omega)
   clear hno hi hlt hx' hk hB hall hj hwl hk3
   repeat' (first | (simp (config := { maxSteps := 4000000 }) (disch := first | assumption | omega | (simp only [lenL] <;> omega)) only [goS, append_gt, append_gt_yes, plainEv, resultsEv, resultListEv, reduceIte, Nat.reduceEqDiff, goT, beq_self_eq_true, res16, toks_len, *]; done) | simp (config := { maxSteps := 4000000 }) (disch := first | assumption | omega | (simp only [lenL]; omega)) only [goS, append_gt, append_gt_yes, plainEv, resultsEv, resultListEv, reduceIte, Nat.reduceEqDiff, goT, beq_self_eq_true, res16, toks_len, *] | ((first | refine G_d ?_ ?_ | refine G_n ?_ ?_ | refine B_d ?_ ?_ | refine B_n ?_ ?_) <;> (intro _; try (exfalso; omega))) | refine run_draw (by kernel_rfl) ?_ | ((first | refine G_m ?_ ?_ | refine B_m ?_ ?_ | refine G_b ?_ ?_ | refine B_b ?_ ?_) <;> intro _))
   refine answerA ?_ hk2.out
   rw [textB, hk6]; rfl
 ·refine ⟨0, by omega, rfl, ?_, ?_, ?_, ?_, ?_, .push _ _, ?_, fun t ht => by simp at ht⟩
  iterate 5
   ·simp only [goS, append_gt, append_gt_yes, plainEv, resultsEv, resultListEv, reduceIte, Nat.reduceEqDiff, goT, beq_self_eq_true] <;> rfl
  ·rw [wordsAt_zero]; exact push_last _ _
end Go.Proofs.YtmdakolcndpjeaaGreatDoor
end

section
namespace Go.Proofs.YtmdakolcndpjeaaGreatDoor
open Go.AE Go.Lex Go.Pol Go.Syn
set_option maxRecDepth 100000
theorem rs6 : Tryz.f6.results.toList = [.tmp 6] := by kernel_rfl
theorem bsl0 : buildSliceEv Tryz.prog 39 0 [] = some (.list .tight 4 []) := by kernel_rfl
theorem toks_ne {l : List Tk} (h : 0 < l.length) : toks l ≠ [] := fun q => by
 have := congrArg List.length q
 rw [toks_len, List.length_nil] at this
 omega
theorem thaw_toks {h : Heap} {k : Tok} {sz : Nat} {l : List Tk} (hz : sz = 4) (h0 : 0 < l.length) (h1 : l.length ≤ 100000) :
 thawEv Tryz.prog h #[39, 39] (.list .tight 4 []) (.list k sz (toks l)) = some (.arr h.boxes.length 0 l.length l.length, h.push (toks l).flatten) := by
 subst hz
 have hi : (Tryz.prog.info? 43).map (fun i => (decide (i.bytes ≤ 1000), i.size, i.zero.map fun z => z.cells.size)) = some (true, 4, some 4) := by kernel_rfl
 cases hq : Tryz.prog.info? 43 with
 | none => rw [hq] at hi; cases hi
 | some i =>
  rw [hq] at hi
  simp only [Option.map_some, Option.some.injEq, Prod.mk.injEq, decide_eq_true_eq] at hi
  obtain ⟨i1, i2, i3⟩ := hi
  have hm : (0 + (toks l).length) * i.bytes ≤ 100000 * 1000 := Nat.mul_le_mul (by rw [toks_len]; omega) i1
  have := thaw_rows (k := .tight) (sz := 4) (es := []) (new := toks l) (x := .list k 4 (toks l)) (h := h) Tryz.underlying39 Tryz.underlying39 hq (by omega) (by rw [i3, i2]) (toks_ne h0) (by simp only [List.length_nil]; omega) (by simp only [List.length_nil, toks_len]; omega) (.inr rfl) (.inr rfl) (by rw [i2]; exact new_list)
  rw [this]
  simp only [List.length_nil, Nat.zero_add, toks_len, List.nil_append]
theorem arr_to {c L : Nat} {i : Nat} (hi : i < L) : sliceEv Tryz.prog 39 (.arr c 0 L L) none (some (.v (.int .i64 (i : Int)))) none = some (.arr c 0 i L) := by
 have := slice_arr_to (b := c) (off := 0) (len := L) (cap := L) (kk := .i64) (m := (i : Int)) Tryz.underlying39 sz43 (by decide) (by omega) (by omega) (by omega)
 rw [this, Int.toNat_natCast]
theorem set_row {l : List Tk} {i : Nat} {o : Tk} (hi : i < l.length) : splice (toks l).flatten (i * 4) o.row = (toks (l.set i o)).flatten := by
 have e0 : toks (l.set i o) = (toks l).set i o.row := by simp [toks, List.map_set]
 have hr := toks_rows l
 have hil : i < (toks l).length := by rw [toks_len]; exact hi
 rw [e0, List.set_eq_take_append_cons_drop, if_pos hil, List.flatten_append, List.flatten_cons]
 unfold splice
 rw [show o.row.length = 4 from rfl, show i * 4 + 4 = (i + 1) * 4 by omega, ← flatten_take hr, ← flatten_drop hr, List.append_assoc]
theorem st_tok {H : Heap} {c i : Nat} {l : List Tk} {o : Tk} (hb : H.boxes[c]? = some (toks l).flatten) (hi : i < l.length) : storeEv Tryz.prog H 43 (.ptr (.box c) (i * 4)) (.agg o.row) = some (H.put c (toks (l.set i o)).flatten) := by
 have hf := flatten_length (toks_rows l)
 rw [toks_len] at hf
 have := store_box (P := Tryz.prog) (off := i * 4) (cs := (toks l).flatten) (xs := o.row) (row_cells o) sz43 hb rfl (by rw [hf]; omega)
 rw [set_row hi] at this
 exact this
theorem textA_eq {c cap m : Nat} {l l2 : List Tk} {h : Heap} (hm : m = l.length) (hl : l.length ≤ 1048576) (hc : h.boxes[c]? = some (toks (l ++ l2)).flatten) :
 W.call 17 [.arr c 0 m cap] h = some (.ret (.tuple [.v (.string (bs (textS l))), .v (.int .i64 (textE l))]), heapOf W 17 [.arr c 0 m cap] h) ∧ Ext h (heapOf W 17 [.arr c 0 m cap] h) := by
 subst hm
 have := textA_ev c cap l l2 hl h hc
 exact ⟨by rw [← textB_eq]; exact this.eq, this.ext⟩
theorem has_tokV {H : Type} {x : AV} {d : DataW H} (h : HasV Tryz.prog 43 x d) : ∃ t : Tk, x = .agg t.row := by
 obtain ⟨fs, hu, -⟩ := structIs_of str43
 obtain ⟨ys, rfl, h2⟩ := h.struct_inv hu
 obtain ⟨t, rfl⟩ := has_tk h2
 exact ⟨t, rfl⟩
theorem ld_row {H : Heap} {b : Nat} {o : Tk} (hb : H.boxes[b]? = some o.row) : loadEv Tryz.prog Gt H 43 (.ptr (.box b) 0) = some (.agg o.row) := load_agg ag43 sz43 hb (Nat.le_refl 4)
theorem prefix_of' (a b : List UInt8) : Lib.hasPrefix (a ++ b) a = true := by
 unfold Lib.hasPrefix
 exact List.isPrefixOf_iff_prefix.2 ⟨b, rfl⟩
theorem joinS_take (l : List Tk) (i : Nat) : ∃ r, joinS l = joinS (l.take i) ++ r := by
 by_cases ha : l.take i = []
 ·exact ⟨joinS l, by rw [ha, joinS_nil]; rfl⟩
 ·by_cases hb : l.drop i = []
  ·refine ⟨[], ?_⟩
   have := List.take_append_drop i l
   rw [hb, List.append_nil] at this
   rw [this, List.append_nil]
  ·refine ⟨32 :: joinS (l.drop i), ?_⟩
   have := joinS_app ha hb
   rw [List.take_append_drop] at this
   exact this
theorem syntaxChange_law (src : List UInt8) (hs : src.length ≤ 9223372036854775807) (n : Int) (o : Tk) : ∃ h', W.call 6 [.v (.string (bs src)), .v (.int .i64 n), .agg o.row] Heap.init = some (.ret (.v (.bool true)), h') ∧ True := by
 have u9 := Tryz.underlying9; have u39 := Tryz.underlying39; have u48 := Tryz.underlying48
 have a28 := ag28; have s28 := sz28; have z28 := zc28; have a3 := ag3; have a9 := ag9; have a31 := ag31'; have s43 := sz43
 have rc := row_cells o
 obtain ⟨h1, c1, x1⟩ := sane_ev (Heap.init.push o.row) rfl
 have o1 := x1.ok rfl
 have k1 := x1.box _ _ (push_last Heap.init o.row)
 have c2 := lex_eq (src := src) (h := h1) hs o1
 have o2 := lex_ok (src := src) (h := h1) hs o1
 have k2 := (lex_ext (src := src) (h := h1) hs o1).box _ _ k1
 have z2 := lex_z (src := src) (h := h1) hs o1
 obtain ⟨t3, h3, c3, x3, ok3⟩ := parse_ev src hs (lexH src h1) o2
 have k3 := x3.box _ _ k2
 have n3 := (List.getElem?_eq_some_iff.1 k3).1
 have o3 : okHeap ((h3.push (prow (parseF src).1 t3)).push o.row) = true := x3.ok o2
 have ln := lexF_len src
 have hv := lexF_valid src
 have law : ∀ i : Nat, (parseF src).2.2 = 0 → i < (lexF src).1.length → validB o = true → (joinS ((lexF src).1.set i o)).length ≤ 65536 → _ := fun i a b c d => change_plain (i := i) a b c d
 generalize lexTok src h1 = tk at *
 generalize lexSz src h1 = sz at *
 generalize lexH src h1 = h2 at *
 refine call_ex rfl Tryz.func6 rfl ?_
 by_cases q1 : 2000 < src.length
 ·clear law hv ok3 x1 x3 z2
  repeat' (first | simp (config := { maxSteps := 4000000 }) (disch := first | exact dZ | fail) only [goS, append_gt, append_gt_yes, plainEv, resultsEv, resultListEv, reduceIte, Nat.reduceEqDiff, goT, beq_self_eq_true, goH, goU, rs6, st28, put_push_eq, push_len, bs_size, box_push, *] | (refine dX ?_ ?_ <;> (intro _; try (exfalso; omega))) | (refine dY ?_ ?_ <;> intro _) | fail)
  exact answerT rfl
 by_cases q2 : (lexF src).2.2 = 0
 rotate_left 1
 ·clear law hv ok3 x1 x3 z2
  repeat' (first | simp (config := { maxSteps := 4000000 }) (disch := first | exact dZ | fail) only [goS, append_gt, append_gt_yes, plainEv, resultsEv, resultListEv, reduceIte, Nat.reduceEqDiff, goT, beq_self_eq_true, goH, goU, rs6, st28, put_push_eq, push_len, bs_size, box_push, *] | (refine dX ?_ ?_ <;> (intro _; try (exfalso; omega))) | (refine dY ?_ ?_ <;> intro _) | fail)
  exact answerT rfl
 by_cases q3 : (parseF src).2.2 = 0
 rotate_left 1
 ·clear law hv ok3 x1 x3 z2
  repeat' (first | simp (config := { maxSteps := 4000000 }) (disch := first | exact dZ | fail) only [goS, append_gt, append_gt_yes, plainEv, resultsEv, resultListEv, reduceIte, Nat.reduceEqDiff, goT, beq_self_eq_true, goH, goU, rs6, st28, put_push_eq, push_len, bs_size, box_push, *] | (refine dX ?_ ?_ <;> (intro _; try (exfalso; omega))) | (refine dY ?_ ?_ <;> intro _) | fail)
  exact answerT rfl
 have law2 := fun i => law i q3
 rw [q2] at c2
 rw [q3] at c3
 by_cases q4 : (lexF src).1.length = 0
 ·clear law law2 hv ok3 x1 x3 z2 q2 q3
  repeat' (first | simp (config := { maxSteps := 4000000 }) (disch := first | exact dZ | fail) only [goS, append_gt, append_gt_yes, plainEv, resultsEv, resultListEv, reduceIte, Nat.reduceEqDiff, goT, beq_self_eq_true, goH, goU, rs6, st28, put_push_eq, push_len, bs_size, toks_len, box_push, *] | (refine dX ?_ ?_ <;> (intro _; try (exfalso; omega))) | (refine dY ?_ ?_ <;> intro _) | fail)
  exact answerT rfl
 by_cases q5 : 1000 < (lexF src).1.length
 ·clear law law2 hv ok3 x1 x3 z2 q2 q3
  repeat' (first | simp (config := { maxSteps := 4000000 }) (disch := first | exact dZ | fail) only [goS, append_gt, append_gt_yes, plainEv, resultsEv, resultListEv, reduceIte, Nat.reduceEqDiff, goT, beq_self_eq_true, goH, goU, rs6, st28, put_push_eq, push_len, bs_size, toks_len, box_push, *] | (refine dX ?_ ?_ <;> (intro _; try (exfalso; omega))) | (refine dY ?_ ?_ <;> intro _) | fail)
  exact answerT rfl
 have c4 := fun h => refValid_ev o h
 have q4' : ¬ (((lexF src).1.length : Int) = 0) := by omega
 by_cases q6 : validB o = true
 rotate_left 1
 ·have q6' : validB o = false := by simpa using q6
  rw [q6'] at c4
  clear law law2 hv ok3 x1 x3 z2 q2 q3
  repeat' (first | simp (config := { maxSteps := 4000000 }) (disch := first | exact dZ | fail) only [goS, append_gt, append_gt_yes, plainEv, resultsEv, resultListEv, reduceIte, Nat.reduceEqDiff, goT, beq_self_eq_true, goH, goU, rs6, st28, put_push_eq, push_len, bs_size, toks_len, box_push, ld_row, *] | (refine dX ?_ ?_ <;> (intro _; try (exfalso; omega))) | (refine dY ?_ ?_ <;> intro _) | fail)
  exact answerT rfl
 rw [q6] at c4
 obtain ⟨i, hi, e1, e2⟩ := rem_ix n (l := (lexF src).1.length) (by omega) (by omega)
 have hz := z2 0 (by omega)
 clear z2
 subst hz
 have th := fun h => thaw_toks (h := h) (k := tk) (sz := 4) (l := (lexF src).1) rfl (show 0 < (lexF src).1.length by omega) (by omega)
 have sto := fun (H : Heap) c (hb : H.boxes[c]? = some (toks (lexF src).1).flatten) => st_tok (o := o) hb hi
 have at1 := fun c => arr_to (c := c) hi
 have hvs : Valid ((lexF src).1.set i o) := fun t ht => by
  rcases List.mem_or_eq_of_mem_set ht with q | q
  ·exact hv t q
  ·rw [q]; exact q6
 have hvi := valid_take hvs i
 have lset : ((lexF src).1.set i o).length = (lexF src).1.length := by simp
 have jl := joinS_len hvs
 rw [lset] at jl
 have law3 := law2 i hi q6 (by omega)
 have sx : ∃ r, joinS ((lexF src).1.set i o) = joinS (((lexF src).1.set i o).take i) ++ r := joinS_take _ _
 have hbx := push_last ((h3.push (prow (parseF src).1 t3)).push o.row) (toks ((lexF src).1.set i o)).flatten
 obtain ⟨c5, x5⟩ := textA_eq (cap := (lexF src).1.length) (m := (lexF src).1.length) (l := (lexF src).1.set i o) (l2 := []) lset.symm (by omega) (by rw [List.append_nil]; exact hbx)
 rw [textS_ok hvs, textE_ok hvs] at c5
 have hb5 := x5.box _ _ hbx
 have tl : (((lexF src).1.set i o).take i).length = i := by rw [List.length_take, lset]; omega
 obtain ⟨c6, x6⟩ := textA_eq (cap := (lexF src).1.length) (m := i) (l := ((lexF src).1.set i o).take i) (l2 := ((lexF src).1.set i o).drop i) tl.symm (by omega) (by rw [List.take_append_drop]; exact hb5)
 rw [textS_ok hvi, textE_ok hvi] at c6
 have o6 := x6.ok (x5.ok o3)
 have c7 := ev46 (joinS ((lexF src).1.set i o)) (joinS (((lexF src).1.set i o).take i))
 obtain ⟨r, hr⟩ := sx
 rw [show Lib.hasPrefix (joinS ((lexF src).1.set i o)) (joinS (((lexF src).1.set i o).take i)) = true by rw [hr]; exact prefix_of' _ _] at c7
 obtain ⟨t8, h8, c8, x8, ok8⟩ := parse_ev (joinS ((lexF src).1.set i o)) (by omega) _ o6
 have jl2 : (joinS ((lexF src).1.set i o)).length ≤ 33000 := by omega
 have hlp := congrArg List.length hr
 rw [List.length_append] at hlp
 simp only [push_len] at c5 c6 c8 th
 clear hr hbx hb5 x5 x6 o6 o3 x8 ok8 law law2 hv hvs hvi ok3 x1 x3 q2 q3 lset tl jl
 generalize (parseF (joinS ((lexF src).1.set i o))).1 = pq at *
 generalize (parseF (joinS ((lexF src).1.set i o))).2.1 = pa at *
 generalize (parseF (joinS ((lexF src).1.set i o))).2.2 = pe at *
 rcases law3 with ⟨rfl, rfl⟩ | ⟨rfl, p1, p2⟩
 ·repeat' (first | simp (config := { maxSteps := 4000000 }) (disch := first | exact dZ | fail) only [goS, append_gt, append_gt_yes, plainEv, resultsEv, resultListEv, reduceIte, Nat.reduceEqDiff, goT, beq_self_eq_true, goH, goU, rs6, st28, put_push_eq, push_len, bs_size, toks_len, cv_iu, cv_ui, box_push, ld_row, bsl0, index_arr, *] | (refine dX ?_ ?_ <;> (intro _; try (exfalso; omega))) | (refine dY ?_ ?_ <;> intro _) | fail)
  all_goals exact answerT rfl
 ·repeat' (first | simp (config := { maxSteps := 4000000 }) (disch := first | exact dZ | fail) only [goS, append_gt, append_gt_yes, plainEv, resultsEv, resultListEv, reduceIte, Nat.reduceEqDiff, goT, beq_self_eq_true, goH, goU, rs6, st28, put_push_eq, push_len, bs_size, toks_len, cv_iu, cv_ui, box_push, ld_row, bsl0, index_arr, *] | (refine dX ?_ ?_ <;> (intro _; try (exfalso; omega))) | (refine dY ?_ ?_ <;> intro _) | fail)
  all_goals first | exact answerT rfl | exact answerT (by simp only [decide_eq_true_eq]; omega)
end Go.Proofs.YtmdakolcndpjeaaGreatDoor
end
