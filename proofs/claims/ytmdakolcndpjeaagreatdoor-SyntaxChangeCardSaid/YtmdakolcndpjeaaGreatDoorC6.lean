/-
 SyntaxChange: the law answers true for every input. No condition beyond the row's own.
-/
import Derived.Test.YtmdakolcndpjeaaGreatDoorSN
import Derived.Test.YtmdakolcndpjeaaGreatDoorSK
import Derived.Test.YtmdakolcndpjeaaGreatDoorCards
import Derived.Test.YtmdakolcndpjeaaGreatDoorTie
import Derived.LaidMore
import Derived.Deep.DeepHandedRow
import Derived.Deep.DeepWitnessRowRef
import Derived.KernelRfl
set_option maxHeartbeats 64000000
set_option maxRecDepth 100000
set_option linter.unusedSimpArgs false
set_option linter.unusedVariables false
set_option linter.constructorNameAsVariable false
section
namespace Go.Proofs.YtmdakolcndpjeaaGreatDoor
open Go.AE Go.Lex Go.ChangeShapes Go.WideShapes Go.RowKit
namespace syntaxChangeClose
theorem len1 {α : Type} {l : List α} (h : l.length = 1) : ∃ a, l = [a] := List.length_eq_one_iff.1 h
theorem len2 {α : Type} {l : List α} (h : l.length = 2) : ∃ a b, l = [a, b] := by
 match l, h with
 | [a, b], _ => exact ⟨a, b, rfl⟩
theorem len3 {α : Type} {l : List α} (h : l.length = 3) : ∃ a b c, l = [a, b, c] := by
 match l, h with
 | [a, b, c], _ => exact ⟨a, b, c, rfl⟩
theorem facts : LawFactsS Tryz.prog lawTys 6 Tryz.f6 4 := ⟨Tryz.func6, by kernel_rfl, by kernel_rfl, by
 have : (Tryz.f6.params.toList.all fun t => lawTys.contains t && Tryz.prog.readableRec t && decide (t < Tryz.prog.types.size)) = true := by kernel_rfl
 intro t ht
 have := List.all_eq_true.1 this t ht
 simp only [Bool.and_eq_true, decide_eq_true_eq] at this
 exact ⟨this.1.1, this.1.2, this.2⟩, by kernel_rfl, Tryz.underlying4⟩
theorem laid_met (os : Os) (args : Array Value) : laidMetH Tryz.prog Rows.syntaxChangeRow.laid ((World.doorLaid Tryz.prog 400 os).forCall (fun _ _ => 0) ⟨#[], args, []⟩).memory :=
 laidMetH_of_parts3 (fuel := 8) (laidMet_of_run' 8 (by kernel_rfl) (by kernel_rfl)) (by kernel_rfl) (by kernel_rfl)
theorem reads (os : Os) {H : Type} (enc : TypeId × Value → H) : ∃ places, DataW.whole enc Tryz.prog ((World.doorLaid Tryz.prog 400 os).forCall (fun _ _ => 0) ⟨#[], #[.string ⟨#[]⟩, .int .i64 0, .agg #[.int .i64 0, .string ⟨#[]⟩, .int .i64 0, .int .i64 0]], []⟩).memory Tryz.f6.params.toList Rows.syntaxChangeSpec.vars false #[Value.string ⟨#[]⟩, .int .i64 0, .agg #[.int .i64 0, .string ⟨#[]⟩, .int .i64 0, .int .i64 0]].toList 8 = some ([.lit (.string []), .lit (.int .i64 0), .agg [.lit (.int .i64 0), .lit (.string []), .lit (.int .i64 0), .lit (.int .i64 0)]], [], places) :=
 ⟨[], by kernel_rfl⟩
theorem law {W0 : World} {H : Type} (ds : List (DataW H)) (xs : List AV) (h : HasAll Tryz.prog Tryz.f6.params.toList xs ds) : ∃ h', W.call 6 xs Heap.init = some (.ret (.v (.bool true)), h') := by
 have hp : Tryz.f6.params.toList = [9, 3, 43] := by kernel_rfl
 rw [hp] at h
 obtain ⟨x, xs, d0, ds, rfl, rfl, h0, h⟩ := h.cons_inv
 obtain ⟨y, xs, d1, ds, rfl, rfl, h1, h⟩ := h.cons_inv
 obtain ⟨z, xs, d2, ds, rfl, rfl, h2, h⟩ := h.cons_inv
 obtain rfl := h.nil_inv
 obtain ⟨a0, rfl, b0⟩ := has_string h0
 obtain ⟨a1, rfl, q1, b1⟩ := h1.i64_inv Tryz.underlying3
 obtain ⟨o2, rfl⟩ := has_tokV h2
 obtain ⟨h', hh, -⟩ := syntaxChange_law a0 b0 a1 o2
 exact ⟨h', hh⟩
theorem lifted (os : Os) (started : os.Started) (H : Type) (enc : TypeId × Value → H) (F : Stop.Interp) :
 ReturnsInHanded {} Tryz.checked os 6 .any ((OpenSpec.ofChange Rows.syntaxChangeSpec).preRow enc Tryz.prog Tryz.f6 Rows.syntaxChangeRow.domain false Rows.syntaxChangeRow.laid) (((OpenSpec.ofChange Rows.syntaxChangeSpec).at F).post enc Tryz.prog Tryz.f6 false true false false) := by
 obtain ⟨places, hx⟩ := reads os enc
 refine returnsInHanded_of_row (C := Tryz.checked) (s := OpenSpec.ofChange Rows.syntaxChangeSpec) seat_own started (by kernel_rfl) Tryz.func6
  (witness_row_atRef (enc := enc) (C := Tryz.checked) false (World.doorLaid Tryz.prog 400 os) #[.string ⟨#[]⟩, .int .i64 0, .agg #[.int .i64 0, .string ⟨#[]⟩, .int .i64 0, .int .i64 0]] rfl (by kernel_rfl) (by kernel_rfl) (by kernel_rfl)
   (OpenSpec.preRow_of_cond 8 hx (by kernel_rfl) (fun k hk => by cases hk) (by kernel_rfl) (laid_met os _))) ?_
 intro W base args ds gs before hval hW _ _ _ hL _ _
 refine law_contractS seat_prog facts rfl (fun ds hl => ?_) hval hW gt_ok (fun g p h => prims_ok (laid_of hL) seat_prog g p h) (law (W0 := W) ds)
 obtain ⟨d0, d1, d2, rfl⟩ := len3 hl
 exact ⟨rfl, rfl, rfl⟩
theorem said : Rows.SyntaxChangeSaid :=
 OpenClaim.holds_of_cond 6 Tryz.f6 rfl rfl rfl rfl rfl rfl rfl ⟨rfl, rfl, rfl, rfl, rfl⟩ rfl rfl rfl rfl rfl (by kernel_rfl) Tryz.func6 (by kernel_rfl)
  (of_decide_eq_true (by kernel_rfl)) (by unfold Func.isWrapper; first | (rw [if_pos (by decide +kernel)]; kernel_rfl) | (rw [if_neg (by decide +kernel)]; exact ⟨rfl, rfl⟩))
  (fun os started H enc _ F => by rw [OpenClaim.pre_eq_preRow]; exact lifted os started H enc F)
theorem plain (f : FuncId) (fn : Func) (hf : Tryz.pinned.checked.prog.funcNamed Tryz.f6.name = some f) (hfn : Tryz.pinned.checked.prog.funcs[f]? = some fn) :
 true = Tryz.pinned.checked.prog.looks [] ∧ ∀ (j : Nat) t, fn.params[j]? = some t → Tryz.pinned.checked.prog.wantsStandIn t = false := by
 obtain rfl : f = 6 := Option.some.inj ((show Tryz.prog.funcNamed Tryz.f6.name = some 6 by kernel_rfl).symm.trans hf) |>.symm
 obtain rfl : fn = Tryz.f6 := (Option.some.inj (Tryz.func6.symm.trans hfn)).symm
 refine ⟨by kernel_rfl, fun j t ht => ?_⟩
 have : (Tryz.f6.params.toList.all fun t => !Tryz.prog.wantsStandIn t) = true := by kernel_rfl
 have h2 := List.all_eq_true.1 this t (Array.mem_toList_iff.2 (Array.mem_of_getElem? ht))
 have h3 : Tryz.prog.wantsStandIn t = false := by simpa using h2
 exact h3
end syntaxChangeClose
theorem syntaxChange_card : Rows.SyntaxChangeCardSaid :=
 Claim7.holds_tied_plain_at .later [] _ _ _ _ syntaxChangeClose.said (fun _ h => by cases h) (by kernel_rfl) (fun _ h => by cases h) syntaxChange_row_tie rfl ⟨rfl, rfl⟩ (by kernel_rfl) rfl syntaxChangeClose.plain (by kernel_rfl)
end Go.Proofs.YtmdakolcndpjeaaGreatDoor
end
