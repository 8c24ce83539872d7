/-
 SyntaxPrintSpec: the law answers true for every input. No condition beyond the row's own.
-/
import Derived.Test.YtmdakolcndpjeaaGreatDoorRE
import Derived.Test.YtmdakolcndpjeaaGreatDoorSK
import Derived.Test.YtmdakolcndpjeaaGreatDoorCards
import Derived.Test.YtmdakolcndpjeaaGreatDoorTie
import Derived.LaidMore
import Derived.Deep.DeepHandedRow
import Derived.Deep.DeepWitnessRowRef
import Derived.KernelRfl
set_option maxHeartbeats 64000000
set_option maxRecDepth 100000
set_option linter.unusedSimpArgs false
set_option linter.unusedVariables false
set_option linter.constructorNameAsVariable false
section
namespace Go.Proofs.YtmdakolcndpjeaaGreatDoor
open Go.AE Go.Lex Go.ChangeShapes Go.WideShapes Go.RowKit
namespace syntaxPrintSpecClose
theorem len1 {α : Type} {l : List α} (h : l.length = 1) : ∃ a, l = [a] := List.length_eq_one_iff.1 h
theorem facts : LawFactsS Tryz.prog lawTys 3 Tryz.f3 4 := ⟨Tryz.func3, by kernel_rfl, by kernel_rfl, by
 have : (Tryz.f3.params.toList.all fun t => lawTys.contains t && Tryz.prog.readableRec t && decide (t < Tryz.prog.types.size)) = true := by kernel_rfl
 intro t ht
 have := List.all_eq_true.1 this t ht
 simp only [Bool.and_eq_true, decide_eq_true_eq] at this
 exact ⟨this.1.1, this.1.2, this.2⟩, by kernel_rfl, Tryz.underlying4⟩
theorem laid_met (os : Os) (args : Array Value) : laidMetH Tryz.prog Rows.syntaxPrintSpecRow.laid ((World.doorLaid Tryz.prog 400 os).forCall (fun _ _ => 0) ⟨#[], args, []⟩).memory :=
 laidMetH_of_parts3 (fuel := 8) (laidMet_of_run' 8 (by kernel_rfl) (by kernel_rfl)) (by kernel_rfl) (by kernel_rfl)
theorem reads (os : Os) {H : Type} (enc : TypeId × Value → H) : ∃ places, DataW.whole enc Tryz.prog ((World.doorLaid Tryz.prog 400 os).forCall (fun _ _ => 0) ⟨#[], #[.agg #[.string ⟨#[]⟩, .slice none 0 0, .slice none 0 0, .slice none 0 0, .int .i64 0, .int .i64 0, .int .i64 0, .string ⟨#[]⟩, .slice none 0 0, .int .i64 0]], []⟩).memory Tryz.f3.params.toList Rows.syntaxPrintSpecSpec.vars false #[Value.agg #[.string ⟨#[]⟩, .slice none 0 0, .slice none 0 0, .slice none 0 0, .int .i64 0, .int .i64 0, .int .i64 0, .string ⟨#[]⟩, .slice none 0 0, .int .i64 0]].toList 8 = some ([.agg [.lit (.string []), .nil, .nil, .nil, .agg [.lit (.int .i64 0), .lit (.int .i64 0), .lit (.int .i64 0), .lit (.string []), .nil], .lit (.int .i64 0)]], [], places) :=
 ⟨[], by kernel_rfl⟩
theorem law {W0 : World} {H : Type} (ds : List (DataW H)) (xs : List AV) (h : HasAll Tryz.prog Tryz.f3.params.toList xs ds) : ∃ h', W.call 3 xs Heap.init = some (.ret (.v (.bool true)), h') := by
 have hp : Tryz.f3.params.toList = [28] := by kernel_rfl
 rw [hp] at h
 obtain ⟨x, xs, d0, ds, rfl, rfl, h0, h⟩ := h.cons_inv
 obtain rfl := h.nil_inv
 obtain ⟨a0, t0, rfl, q0⟩ := has_policy h0
 obtain ⟨h', hh, -⟩ := syntaxPrintSpec_law a0 t0 q0
 exact ⟨h', hh⟩
theorem lifted (os : Os) (started : os.Started) (H : Type) (enc : TypeId × Value → H) (F : Stop.Interp) :
 ReturnsInHanded {} Tryz.checked os 3 .any ((OpenSpec.ofChange Rows.syntaxPrintSpecSpec).preRow enc Tryz.prog Tryz.f3 Rows.syntaxPrintSpecRow.domain false Rows.syntaxPrintSpecRow.laid) (((OpenSpec.ofChange Rows.syntaxPrintSpecSpec).at F).post enc Tryz.prog Tryz.f3 false true false false) := by
 obtain ⟨places, hx⟩ := reads os enc
 refine returnsInHanded_of_row (C := Tryz.checked) (s := OpenSpec.ofChange Rows.syntaxPrintSpecSpec) seat_own started (by kernel_rfl) Tryz.func3
  (witness_row_atRef (enc := enc) (C := Tryz.checked) false (World.doorLaid Tryz.prog 400 os) #[.agg #[.string ⟨#[]⟩, .slice none 0 0, .slice none 0 0, .slice none 0 0, .int .i64 0, .int .i64 0, .int .i64 0, .string ⟨#[]⟩, .slice none 0 0, .int .i64 0]] rfl (by kernel_rfl) (by kernel_rfl) (by kernel_rfl)
   (OpenSpec.preRow_of_cond 8 hx (by kernel_rfl) (fun k hk => by cases hk) (by kernel_rfl) (laid_met os _))) ?_
 intro W base args ds gs before hval hW _ _ _ hL _ _
 refine law_contractS seat_prog facts rfl (fun ds hl => ?_) hval hW (fun g cs h => by cases h) (fun g p h => prims_ok (laid_of hL) seat_prog g p h) (law (W0 := W) ds)
 obtain ⟨d0, rfl⟩ := len1 hl
 exact ⟨rfl, rfl, rfl⟩
theorem said : Rows.SyntaxPrintSpecSaid :=
 OpenClaim.holds_of_cond 3 Tryz.f3 rfl rfl rfl rfl rfl rfl rfl ⟨rfl, rfl, rfl, rfl, rfl⟩ rfl rfl rfl rfl rfl (by kernel_rfl) Tryz.func3 (by kernel_rfl)
  (of_decide_eq_true (by kernel_rfl)) (by unfold Func.isWrapper; first | (rw [if_pos (by decide +kernel)]; kernel_rfl) | (rw [if_neg (by decide +kernel)]; exact ⟨rfl, rfl⟩))
  (fun os started H enc _ F => by rw [OpenClaim.pre_eq_preRow]; exact lifted os started H enc F)
theorem plain (f : FuncId) (fn : Func) (hf : Tryz.pinned.checked.prog.funcNamed Tryz.f3.name = some f) (hfn : Tryz.pinned.checked.prog.funcs[f]? = some fn) :
 true = Tryz.pinned.checked.prog.looks [] ∧ ∀ (j : Nat) t, fn.params[j]? = some t → Tryz.pinned.checked.prog.wantsStandIn t = false := by
 obtain rfl : f = 3 := Option.some.inj ((show Tryz.prog.funcNamed Tryz.f3.name = some 3 by kernel_rfl).symm.trans hf) |>.symm
 obtain rfl : fn = Tryz.f3 := (Option.some.inj (Tryz.func3.symm.trans hfn)).symm
 refine ⟨by kernel_rfl, fun j t ht => ?_⟩
 have : (Tryz.f3.params.toList.all fun t => !Tryz.prog.wantsStandIn t) = true := by kernel_rfl
 have h2 := List.all_eq_true.1 this t (Array.mem_toList_iff.2 (Array.mem_of_getElem? ht))
 have h3 : Tryz.prog.wantsStandIn t = false := by simpa using h2
 exact h3
end syntaxPrintSpecClose
theorem syntaxPrintSpec_card : Rows.SyntaxPrintSpecCardSaid :=
 Claim7.holds_tied_plain_at .later [] _ _ _ _ syntaxPrintSpecClose.said (fun _ h => by cases h) (by kernel_rfl) (fun _ h => by cases h) syntaxPrintSpec_row_tie rfl ⟨rfl, rfl⟩ (by kernel_rfl) rfl syntaxPrintSpecClose.plain (by kernel_rfl)
end Go.Proofs.YtmdakolcndpjeaaGreatDoor
end
