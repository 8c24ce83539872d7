/-
  Part of the proof: L.
-/
import Derived.Test.YtjoifajllfdmhaaDoorP
import Derived.Test.YtjoifajllfdmhaaDoorD
import Derived.Test.YtjoifajllfdmhaaDoorE4
import Derived.Test.YtjoifajllfdmhaaDoorS2
import Derived.Test.YtjoifajllfdmhaaDoorRows
set_option linter.unusedSimpArgs false
set_option linter.unusedVariables false
set_option linter.constructorNameAsVariable false
section
namespace Go.Proofs.YtjoifajllfdmhaaDoor
open Go.AE Go.Lex
/-! ### A law's arguments -/
theorem cells3 : Tryd.prog.cellsOf 3 = 1 := by kernel_rfl
theorem cells35 : Tryd.prog.cellsOf 35 = 4 := by kernel_rfl
theorem cells9 : Tryd.prog.cellsOf 9 = 1 := by kernel_rfl
theorem cells5 : Tryd.prog.cellsOf 5 = 1 := by kernel_rfl
theorem str35 : structIs Tryd.prog 35 [(3, 0), (9, 1), (3, 2), (3, 3)] = true := by kernel_rfl
set_option maxRecDepth 100000 in
theorem has_tk {H : Type} {x : List AV} {d : DataW H} (h : Has Tryd.prog 35 x d) : ∃ t : Tk, x = t.row := by
  obtain ⟨hl, hg⟩ := h.fields str35
  rw [cells35] at hl
  obtain ⟨a, b, c, e, rfl⟩ := len4 hl
  obtain ⟨_, q0⟩ := hg 0 3 0 rfl
  obtain ⟨_, q1⟩ := hg 1 9 1 rfl
  obtain ⟨_, q2⟩ := hg 2 3 2 rfl
  obtain ⟨_, q3⟩ := hg 3 3 3 rfl
  rw [cells3] at q0 q2 q3
  rw [cells9] at q1
  obtain ⟨n0, r0, -⟩ := q0.i64_inv Tryd.underlying3
  obtain ⟨s1, r1, -⟩ := q1.str_inv Tryd.underlying9
  obtain ⟨n2, r2, -⟩ := q2.i64_inv Tryd.underlying3
  obtain ⟨n3, r3, -⟩ := q3.i64_inv Tryd.underlying3
  simp at r0 r1 r2 r3
  exact ⟨⟨n0, s1, n2, n3⟩, by rw [r0, r1, r2, r3]; rfl⟩
set_option maxRecDepth 100000 in
theorem has_toks {H : Type} {x : AV} {d : DataW H} (h : HasV Tryd.prog 23 x d) : ∃ k l, x = .list k 4 (toks l) ∧ l.length ≤ 9223372036854775807 := by
  obtain ⟨k, es, h1, h2, -, -, h4⟩ := h.slice_inv Tryd.underlying23
  obtain ⟨l, rfl⟩ := rows_of (f := Tk.row) fun r hr => by
    obtain ⟨-, d, h5⟩ := h4 r hr
    exact has_tk h5
  rw [cells35] at h1
  exact ⟨k, l, h1, by simpa [maxLen] using h2⟩
set_option maxRecDepth 100000 in
theorem has_bytes {H : Type} {x : AV} {d : DataW H} (h : HasV Tryd.prog 39 x d) : ∃ k, ∃ l : List UInt8, x = .list k 1 (l.map byteRow) ∧ l.length ≤ 9223372036854775807 := by
  obtain ⟨k, es, h1, h2, -, -, h4⟩ := h.slice_inv Tryd.underlying39
  obtain ⟨l, rfl⟩ := rows_of (f := byteRow) fun r hr => by
    obtain ⟨-, d, h5⟩ := h4 r hr
    exact h5.u8_inv Tryd.underlying5
  rw [cells5] at h1
  exact ⟨k, l, h1, by simpa [maxLen] using h2⟩
set_option maxRecDepth 100000 in
theorem has_string {H : Type} {x : AV} {d : DataW H} (h : HasV Tryd.prog 9 x d) : ∃ l : List UInt8, x = .v (.string (bs l)) ∧ l.length ≤ 9223372036854775807 := by
  obtain ⟨l, h1, h2⟩ := h.str_inv Tryd.underlying9
  exact ⟨l, h1, by simpa [maxLen] using h2⟩
end Go.Proofs.YtjoifajllfdmhaaDoor
end

section
namespace Go.Proofs.YtjoifajllfdmhaaDoor
open Go.AE Go.Lex
def saysTrue (r : Option (Res × Heap)) : Bool := match r with | some (.ret (.v (.bool true)), h) => okHeap h | _ => false
theorem saysTrue_of {r : Option (Res × Heap)} (h : saysTrue r = true) : ∃ h', r = some (.ret (.v (.bool true)), h') ∧ okHeap h' = true := by
  unfold saysTrue at h
  split at h
  · exact ⟨_, rfl, h⟩
  · cases h
theorem sane_k : saysTrue ((recs Tryd.prog (fun _ => none) prims 300).call 11 [] Heap.init) = true := by kernel_rfl
theorem sane_says : Says W 11 [] Heap.init (.ret (.v (.bool true))) := by
  obtain ⟨h', h1, h2⟩ := saysTrue_of sane_k
  refine ⟨h', (whole_ge (P := Tryd.prog) (G := fun _ => none) (prims := prims) 300).call _ _ _ _ h1, ?_⟩
  exact ⟨fun b cs hb => (by simp [Heap.init] at hb), fun l r hl => (by simp [Heap.init] at hl), Nat.zero_le _, fun n hn => absurd hn (Nat.not_lt_zero n), fun _ => h2⟩
noncomputable def H1 : Heap := heapOf W 11 [] Heap.init
theorem sane_ev : W.call 11 [] Heap.init = some (.ret (.v (.bool true)), H1) := sane_says.eq
theorem H1_ok : okHeap H1 = true := sane_says.ext.ok rfl

def textS (l : List Tk) : List UInt8 := if l.all validB then joinS l else []
def textE (l : List Tk) : Int := if l.all validB then 0 else 30
theorem textB_eq (l : List Tk) : textB l = .tuple [.v (.string (bs (textS l))), .v (.int .i64 (textE l))] := by
  unfold textB textS textE
  split <;> rfl
theorem text_eq (k : Tok) (sz : Nat) (l : List Tk) (hz : ∀ i : Nat, i < l.length → sz = 4) (hl : l.length ≤ 1048576) (h : Heap) : W.call 16 [.list k sz (toks l)] h = some (.ret (.tuple [.v (.string (bs (textS l))), .v (.int .i64 (textE l))]), heapOf W 16 [.list k sz (toks l)] h) := by
  rw [← textB_eq]; exact (text_ev k sz l hz hl h).eq
theorem refText_eq (k : Tok) (sz : Nat) (l : List Tk) (hz : ∀ i : Nat, i < l.length → sz = 4) (hl : l.length ≤ 1048576) (h : Heap) : W.call 17 [.list k sz (toks l)] h = some (.ret (.tuple [.v (.string (bs (textS l))), .v (.int .i64 (textE l))]), heapOf W 17 [.list k sz (toks l)] h) := by
  rw [← textB_eq]; exact (refText_ev k sz l hz hl h).eq
theorem same_eq (k k' : Tok) (sz sz' : Nat) (a b : List Tk) (hz : ∀ i : Nat, i < a.length → sz = 4) (hz' : ∀ i : Nat, i < b.length → sz' = 4) (ha : a.length ≤ 9223372036854775807) (h : Heap) : W.call 18 [.list k sz (toks a), .list k' sz' (toks b)] h = some (.ret (.v (.bool (sameB a b))), heapOf W 18 [.list k sz (toks a), .list k' sz' (toks b)] h) :=
  (same_ev k k' sz sz' a b hz hz' ha h).eq
theorem sameB_refl (l : List Tk) : sameB l l = true := by
  induction l with
  | nil => rfl
  | cons t l ih => simp [sameB, sameT, ih]
theorem fewB_len {l : List Tk} (h : fewB l = true) : l.length ≤ 1048576 := by
  simp [fewB] at h; omega
theorem answerT {h : Heap} {b : Bool} (hb : b = true) : ∃ h', (some (Res.ret (AV.v (.bool b)), h) : Option (Res × Heap)) = some (.ret (.v (.bool true)), h') ∧ True := ⟨h, by rw [hb], trivial⟩
theorem res4 : Tryd.f4.results.toList = [.tmp 6] := by kernel_rfl
set_option maxHeartbeats 4000000 in
set_option maxRecDepth 100000 in
theorem lexTextSpec_law (k k' : Tok) (a b : List Tk) (s : List UInt8) (ha : a.length ≤ 9223372036854775807) (hb : b.length ≤ 9223372036854775807) (hs : s.length ≤ 9223372036854775807) :
    ∃ h', W.call 4 [.list k 4 (toks a), .list k' 4 (toks b), .v (.string (bs s))] Heap.init = some (.ret (.v (.bool true)), h') ∧ True := by
  have u4 := Tryd.underlying4; have u9 := Tryd.underlying9; have u23 := Tryd.underlying23; have a3 := ag3; have a9 := ag9; have s35 := sz35; have a35 := ag35
  have z1 : ∀ i : Nat, i < a.length → 4 = 4 := fun _ _ => rfl
  have z2 : ∀ i : Nat, i < b.length → 4 = 4 := fun _ _ => rfl
  refine call_ex rfl Tryd.func4 rfl ?_
  by_cases fa : fewB a = true
  · have la := fewB_len fa
    repeat' (first | (simp (config := { maxSteps := 4000000 }) (disch := first | assumption | omega | (simp only [List.length_cons, List.length_nil, List.length_append] <;> omega)) only [run_seq, run_region, run_cond, run_block, run_exit, run_ret, run_skip, run_label, seqQ_normal, seqQ_ret, seqQ_exit, seqQ_panic, blockQ_normal, blockQ_ret, blockQ_exit, blockQ_panic, loopQ_normal, loopQ_ret, loopQ_exit, loopQ_panic, calmQ_normal, calmQ_panic, branch_true, branch_false, guard_tt, guard_tf, guard_ft, guard_ff, guard_un, guardOf_zero, guardOf_succ, slot_some, runL_nil, runL_guard, rl_move, rl_assign, rl_pick, rl_alloc, rl_box, rl_build, rl_buildSlice, rl_load, rl_store, rl_nilCheck, rl_binOp, rl_unOp, rl_convert, rl_makeInterface, rl_makeFunc, rl_makeSlice, rl_slice, rl_fieldAddr, rl_field, rl_indexAddr, rl_index, rl_typeAssert, rl_extract, rl_len, rl_cap, rl_append, rl_copy, rl_min, rl_max, runL_value, after_some, afterC_ret, afterC_panic, call_func, call_tmp, plainEv, builtinEv, put_some, put_none, st_get, st_defers, st_pan, st_round, start_get, start_defers, start_pan, start_round, eval_tmp, eval_const, eval_func, eval_global, ofVal_int, ofVal_bool, ofVal_string, ofVal_nilIface, ofVal_nilFunc, ofVal_nilPtr, ofVal_nilSlice, ofVal_agg, bs_mk, bs_size, bin_add, bin_sub, bin_mul, bin_quo, bin_rem, bin_eql, bin_neq, bin_lss, bin_leq, bin_gtr, bin_geq, bin_seql, bin_sneq, bin_sadd, un_not, un_neg, len_string, len_list, len_arr, index_string, pick_bool, fits_i64, fits_u8, endQ_normal, endQ_ret, endQ_panic, endX_normal, endX_ret, endX_panic, unwind_nil, unwind_panic, resultsEv, resultListEv, Option.map_some, Option.map_none, Option.bind_some, List.map_cons, List.map_nil, List.getD_cons_zero, List.getD_cons_succ, reduceIte, Bool.not_true, Bool.not_false, Bool.false_eq_true, decide_true, decide_false, not_true_eq_false, not_false_eq_true, Nat.reduceEqDiff, List.getElem?_toArray, List.getElem?_cons_zero, List.getElem?_cons_succ, Int.toNat_natCast, Int.toNat_zero, Nat.succ_ne_zero, eq_self, beq_self_eq_true, res4, eq_self, beq_self_eq_true, sane_ev, few_ev, bs_size, text_eq, refText_eq, same_eq, refSame_ev, name_ev, refName_ev, bin_beql, sameB_refl, *]; done) | simp (config := { maxSteps := 4000000 }) (disch := first | assumption | omega | (simp only [List.length_cons, List.length_nil, List.length_append]; omega)) only [run_seq, run_region, run_cond, run_block, run_exit, run_ret, run_skip, run_label, seqQ_normal, seqQ_ret, seqQ_exit, seqQ_panic, blockQ_normal, blockQ_ret, blockQ_exit, blockQ_panic, loopQ_normal, loopQ_ret, loopQ_exit, loopQ_panic, calmQ_normal, calmQ_panic, branch_true, branch_false, guard_tt, guard_tf, guard_ft, guard_ff, guard_un, guardOf_zero, guardOf_succ, slot_some, runL_nil, runL_guard, rl_move, rl_assign, rl_pick, rl_alloc, rl_box, rl_build, rl_buildSlice, rl_load, rl_store, rl_nilCheck, rl_binOp, rl_unOp, rl_convert, rl_makeInterface, rl_makeFunc, rl_makeSlice, rl_slice, rl_fieldAddr, rl_field, rl_indexAddr, rl_index, rl_typeAssert, rl_extract, rl_len, rl_cap, rl_append, rl_copy, rl_min, rl_max, runL_value, after_some, afterC_ret, afterC_panic, call_func, call_tmp, plainEv, builtinEv, put_some, put_none, st_get, st_defers, st_pan, st_round, start_get, start_defers, start_pan, start_round, eval_tmp, eval_const, eval_func, eval_global, ofVal_int, ofVal_bool, ofVal_string, ofVal_nilIface, ofVal_nilFunc, ofVal_nilPtr, ofVal_nilSlice, ofVal_agg, bs_mk, bs_size, bin_add, bin_sub, bin_mul, bin_quo, bin_rem, bin_eql, bin_neq, bin_lss, bin_leq, bin_gtr, bin_geq, bin_seql, bin_sneq, bin_sadd, un_not, un_neg, len_string, len_list, len_arr, index_string, pick_bool, fits_i64, fits_u8, endQ_normal, endQ_ret, endQ_panic, endX_normal, endX_ret, endX_panic, unwind_nil, unwind_panic, resultsEv, resultListEv, Option.map_some, Option.map_none, Option.bind_some, List.map_cons, List.map_nil, List.getD_cons_zero, List.getD_cons_succ, reduceIte, Bool.not_true, Bool.not_false, Bool.false_eq_true, decide_true, decide_false, not_true_eq_false, not_false_eq_true, Nat.reduceEqDiff, List.getElem?_toArray, List.getElem?_cons_zero, List.getElem?_cons_succ, Int.toNat_natCast, Int.toNat_zero, Nat.succ_ne_zero, eq_self, beq_self_eq_true, res4, eq_self, beq_self_eq_true, sane_ev, few_ev, bs_size, text_eq, refText_eq, same_eq, refSame_ev, name_ev, refName_ev, bin_beql, sameB_refl, *] | (refine guard_dec (fun _ => ?_) (fun _ => ?_) <;> try (exfalso; omega)) | (refine guard_ndec (fun _ => ?_) (fun _ => ?_) <;> try (exfalso; omega)) | (refine branch_dec (fun _ => ?_) (fun _ => ?_) <;> try (exfalso; omega)) | (refine branch_ndec (fun _ => ?_) (fun _ => ?_) <;> try (exfalso; omega)) | refine run_draw (by kernel_rfl) ?_ | refine guard_nbool (fun _ => ?_) (fun _ => ?_) | refine branch_nbool (fun _ => ?_) (fun _ => ?_) | refine guard_bool (fun _ => ?_) (fun _ => ?_) | refine branch_bool (fun _ => ?_) (fun _ => ?_))
    all_goals exact answerT rfl
  · have fa : fewB a = false := by simpa using fa
    repeat' (first | (simp (config := { maxSteps := 4000000 }) (disch := first | assumption | omega | (simp only [List.length_cons, List.length_nil, List.length_append] <;> omega)) only [run_seq, run_region, run_cond, run_block, run_exit, run_ret, run_skip, run_label, seqQ_normal, seqQ_ret, seqQ_exit, seqQ_panic, blockQ_normal, blockQ_ret, blockQ_exit, blockQ_panic, loopQ_normal, loopQ_ret, loopQ_exit, loopQ_panic, calmQ_normal, calmQ_panic, branch_true, branch_false, guard_tt, guard_tf, guard_ft, guard_ff, guard_un, guardOf_zero, guardOf_succ, slot_some, runL_nil, runL_guard, rl_move, rl_assign, rl_pick, rl_alloc, rl_box, rl_build, rl_buildSlice, rl_load, rl_store, rl_nilCheck, rl_binOp, rl_unOp, rl_convert, rl_makeInterface, rl_makeFunc, rl_makeSlice, rl_slice, rl_fieldAddr, rl_field, rl_indexAddr, rl_index, rl_typeAssert, rl_extract, rl_len, rl_cap, rl_append, rl_copy, rl_min, rl_max, runL_value, after_some, afterC_ret, afterC_panic, call_func, call_tmp, plainEv, builtinEv, put_some, put_none, st_get, st_defers, st_pan, st_round, start_get, start_defers, start_pan, start_round, eval_tmp, eval_const, eval_func, eval_global, ofVal_int, ofVal_bool, ofVal_string, ofVal_nilIface, ofVal_nilFunc, ofVal_nilPtr, ofVal_nilSlice, ofVal_agg, bs_mk, bs_size, bin_add, bin_sub, bin_mul, bin_quo, bin_rem, bin_eql, bin_neq, bin_lss, bin_leq, bin_gtr, bin_geq, bin_seql, bin_sneq, bin_sadd, un_not, un_neg, len_string, len_list, len_arr, index_string, pick_bool, fits_i64, fits_u8, endQ_normal, endQ_ret, endQ_panic, endX_normal, endX_ret, endX_panic, unwind_nil, unwind_panic, resultsEv, resultListEv, Option.map_some, Option.map_none, Option.bind_some, List.map_cons, List.map_nil, List.getD_cons_zero, List.getD_cons_succ, reduceIte, Bool.not_true, Bool.not_false, Bool.false_eq_true, decide_true, decide_false, not_true_eq_false, not_false_eq_true, Nat.reduceEqDiff, List.getElem?_toArray, List.getElem?_cons_zero, List.getElem?_cons_succ, Int.toNat_natCast, Int.toNat_zero, Nat.succ_ne_zero, eq_self, beq_self_eq_true, res4, sane_ev, few_ev, bs_size, *]; done) | simp (config := { maxSteps := 4000000 }) (disch := first | assumption | omega | (simp only [List.length_cons, List.length_nil, List.length_append]; omega)) only [run_seq, run_region, run_cond, run_block, run_exit, run_ret, run_skip, run_label, seqQ_normal, seqQ_ret, seqQ_exit, seqQ_panic, blockQ_normal, blockQ_ret, blockQ_exit, blockQ_panic, loopQ_normal, loopQ_ret, loopQ_exit, loopQ_panic, calmQ_normal, calmQ_panic, branch_true, branch_false, guard_tt, guard_tf, guard_ft, guard_ff, guard_un, guardOf_zero, guardOf_succ, slot_some, runL_nil, runL_guard, rl_move, rl_assign, rl_pick, rl_alloc, rl_box, rl_build, rl_buildSlice, rl_load, rl_store, rl_nilCheck, rl_binOp, rl_unOp, rl_convert, rl_makeInterface, rl_makeFunc, rl_makeSlice, rl_slice, rl_fieldAddr, rl_field, rl_indexAddr, rl_index, rl_typeAssert, rl_extract, rl_len, rl_cap, rl_append, rl_copy, rl_min, rl_max, runL_value, after_some, afterC_ret, afterC_panic, call_func, call_tmp, plainEv, builtinEv, put_some, put_none, st_get, st_defers, st_pan, st_round, start_get, start_defers, start_pan, start_round, eval_tmp, eval_const, eval_func, eval_global, ofVal_int, ofVal_bool, ofVal_string, ofVal_nilIface, ofVal_nilFunc, ofVal_nilPtr, ofVal_nilSlice, ofVal_agg, bs_mk, bs_size, bin_add, bin_sub, bin_mul, bin_quo, bin_rem, bin_eql, bin_neq, bin_lss, bin_leq, bin_gtr, bin_geq, bin_seql, bin_sneq, bin_sadd, un_not, un_neg, len_string, len_list, len_arr, index_string, pick_bool, fits_i64, fits_u8, endQ_normal, endQ_ret, endQ_panic, endX_normal, endX_ret, endX_panic, unwind_nil, unwind_panic, resultsEv, resultListEv, Option.map_some, Option.map_none, Option.bind_some, List.map_cons, List.map_nil, List.getD_cons_zero, List.getD_cons_succ, reduceIte, Bool.not_true, Bool.not_false, Bool.false_eq_true, decide_true, decide_false, not_true_eq_false, not_false_eq_true, Nat.reduceEqDiff, List.getElem?_toArray, List.getElem?_cons_zero, List.getElem?_cons_succ, Int.toNat_natCast, Int.toNat_zero, Nat.succ_ne_zero, eq_self, beq_self_eq_true, res4, sane_ev, few_ev, bs_size, *] | (refine guard_dec (fun _ => ?_) (fun _ => ?_) <;> try (exfalso; omega)) | (refine guard_ndec (fun _ => ?_) (fun _ => ?_) <;> try (exfalso; omega)) | (refine branch_dec (fun _ => ?_) (fun _ => ?_) <;> try (exfalso; omega)) | (refine branch_ndec (fun _ => ?_) (fun _ => ?_) <;> try (exfalso; omega)) | refine run_draw (by kernel_rfl) ?_ | refine guard_nbool (fun _ => ?_) (fun _ => ?_) | refine branch_nbool (fun _ => ?_) (fun _ => ?_) | refine guard_bool (fun _ => ?_) (fun _ => ?_) | refine branch_bool (fun _ => ?_) (fun _ => ?_))
    all_goals exact answerT rfl
end Go.Proofs.YtjoifajllfdmhaaDoor
end

section
namespace Go.Proofs.YtjoifajllfdmhaaDoor
open Go.AE
theorem len1 {α : Type} {l : List α} (h : l.length = 1) : ∃ a, l = [a] := List.length_eq_one_iff.1 h
/-! ### The seat's closed facts -/
theorem seat_own : ownKnob Tryd.prog.godebug = none := by kernel_rfl
theorem seat_codes : (Tryd.prog.funcs.all fun fn => match fn.body with | some c => codeOk fn.ntmps c | none => true) = true := by kernel_rfl
theorem seat_names : (Tryd.prog.funcs.all fun fn => !(fn.name == "runtime.NumGoroutine")) = true := by kernel_rfl
theorem seat_prog : Prog Tryd.prog := ⟨fun g fn h => by
  have := Array.all_eq_true'.1 seat_names fn (Array.mem_of_getElem? h)
  simpa using this, by kernel_rfl, fun g fn c h hb => by
  have := Array.all_eq_true'.1 seat_codes fn (Array.mem_of_getElem? h)
  simpa [hb] using this⟩
end Go.Proofs.YtjoifajllfdmhaaDoor
end
