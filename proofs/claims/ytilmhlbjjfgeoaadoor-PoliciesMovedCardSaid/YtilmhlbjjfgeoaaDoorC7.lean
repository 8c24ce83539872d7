/-
  PoliciesMoved: the law answers true for every input. No condition beyond the row's own.
-/
import Derived.Test.YtilmhlbjjfgeoaaDoorSM
import Derived.Test.YtilmhlbjjfgeoaaDoorCards
import Derived.Test.YtilmhlbjjfgeoaaDoorTie
import Derived.LaidMore
import Derived.Deep.DeepHandedRow
import Derived.Deep.DeepWitnessRowRef
import Derived.KernelRfl
set_option linter.unusedSimpArgs false
set_option linter.unusedVariables false
set_option linter.constructorNameAsVariable false
section
namespace Go.Proofs.YtilmhlbjjfgeoaaDoor
open Go.AE Go.Lex Go.ChangeShapes Go.WideShapes Go.RowKit
namespace policiesMovedClose
theorem len1 {α : Type} {l : List α} (h : l.length = 1) : ∃ a, l = [a] := List.length_eq_one_iff.1 h
theorem facts : LawFactsS Tryd.prog lawTys 7 Tryd.f7 4 := ⟨Tryd.func7, by kernel_rfl, by kernel_rfl, by
  have : (Tryd.f7.params.toList.all fun t => lawTys.contains t && Tryd.prog.readableRec t && decide (t < Tryd.prog.types.size)) = true := by kernel_rfl
  intro t ht
  have := List.all_eq_true.1 this t ht
  simp only [Bool.and_eq_true, decide_eq_true_eq] at this
  exact ⟨this.1.1, this.1.2, this.2⟩, by kernel_rfl, Tryd.underlying4⟩
theorem laid_met (os : Os) (args : Array Value) : laidMetH Tryd.prog Rows.policiesMovedRow.laid ((World.doorLaid Tryd.prog 400 os).forCall (fun _ _ => 0) ⟨#[], args, []⟩).memory :=
  laidMetH_of_parts3 (fuel := 8) (laidMet_of_run' 8 (by kernel_rfl) (by kernel_rfl)) (by kernel_rfl) (by kernel_rfl)
theorem reads (os : Os) {H : Type} (enc : TypeId × Value → H) : ∃ places, DataW.whole enc Tryd.prog ((World.doorLaid Tryd.prog 400 os).forCall (fun _ _ => 0) ⟨#[], #[.agg #[.string ⟨#[]⟩, .slice none 0 0, .slice none 0 0, .slice none 0 0, .int .i64 0, .int .i64 0, .int .i64 0, .string ⟨#[]⟩, .slice none 0 0, .int .i64 0], .int .u8 0], []⟩).memory Tryd.f7.params.toList Rows.policiesMovedSpec.vars false #[Value.agg #[.string ⟨#[]⟩, .slice none 0 0, .slice none 0 0, .slice none 0 0, .int .i64 0, .int .i64 0, .int .i64 0, .string ⟨#[]⟩, .slice none 0 0, .int .i64 0], .int .u8 0].toList 8 = some ([.agg [.lit (.string []), .nil, .nil, .nil, .agg [.lit (.int .i64 0), .lit (.int .i64 0), .lit (.int .i64 0), .lit (.string []), .nil], .lit (.int .i64 0)], .lit (.int .u8 0)], [], places) :=
  ⟨[], by kernel_rfl⟩
set_option maxRecDepth 100000 in
theorem law {W0 : World} {H : Type} (ds : List (DataW H)) (xs : List AV) (h : HasAll Tryd.prog Tryd.f7.params.toList xs ds) : ∃ h', W.call 7 xs Heap.init = some (.ret (.v (.bool true)), h') := by
  have hp : Tryd.f7.params.toList = [28, 5] := by kernel_rfl
  rw [hp] at h
  obtain ⟨x, xs, d0, ds, rfl, rfl, h0, h⟩ := h.cons_inv
  obtain ⟨y, xs, d1, ds, rfl, rfl, h1, h⟩ := h.cons_inv
  obtain rfl := h.nil_inv
  obtain ⟨a0, t0, rfl, q0⟩ := has_policy h0
  obtain ⟨a1, rfl⟩ := h1.u8_inv Tryd.underlying5
  obtain ⟨h', hh, -⟩ := policiesMoved_law a0 t0 q0 a1
  exact ⟨h', hh⟩
set_option maxRecDepth 100000 in
theorem lifted (os : Os) (started : os.Started) (H : Type) (enc : TypeId × Value → H) (F : Stop.Interp) :
    ReturnsInHanded {} Tryd.checked os 7 .any ((OpenSpec.ofChange Rows.policiesMovedSpec).preRow enc Tryd.prog Tryd.f7 Rows.policiesMovedRow.domain false Rows.policiesMovedRow.laid) (((OpenSpec.ofChange Rows.policiesMovedSpec).at F).post enc Tryd.prog Tryd.f7 false true false false) := by
  obtain ⟨places, hx⟩ := reads os enc
  refine returnsInHanded_of_row (C := Tryd.checked) (s := OpenSpec.ofChange Rows.policiesMovedSpec) seat_own started (by kernel_rfl) Tryd.func7
    (witness_row_atRef (enc := enc) (C := Tryd.checked) false (World.doorLaid Tryd.prog 400 os) #[.agg #[.string ⟨#[]⟩, .slice none 0 0, .slice none 0 0, .slice none 0 0, .int .i64 0, .int .i64 0, .int .i64 0, .string ⟨#[]⟩, .slice none 0 0, .int .i64 0], .int .u8 0] rfl (by kernel_rfl) (by kernel_rfl) (by kernel_rfl)
      (OpenSpec.preRow_of_cond 8 hx (by kernel_rfl) (fun k hk => by cases hk) (by kernel_rfl) (laid_met os _))) ?_
  intro W base args ds gs before hval hW _ _ _ hL _ _
  refine law_contractS seat_prog facts rfl (fun ds hl => ?_) hval hW (laid_kinds hL) (fun g p h => prims_ok g p h) (law (W0 := W) ds)
  obtain ⟨d0, d1, rfl⟩ := len2 hl
  exact ⟨rfl, rfl, rfl⟩
theorem said : Rows.PoliciesMovedSaid :=
  OpenClaim.holds_of_cond 7 Tryd.f7 rfl rfl rfl rfl rfl rfl rfl ⟨rfl, rfl, rfl, rfl, rfl⟩ rfl rfl rfl rfl rfl (by kernel_rfl) Tryd.func7 (by kernel_rfl)
    (of_decide_eq_true (by kernel_rfl)) (by unfold Func.isWrapper; first | (rw [if_pos (by decide +kernel)]; kernel_rfl) | (rw [if_neg (by decide +kernel)]; exact ⟨rfl, rfl⟩))
    (fun os started H enc _ F => by rw [OpenClaim.pre_eq_preRow]; exact lifted os started H enc F)
theorem plain (f : FuncId) (fn : Func) (hf : Tryd.pinned.checked.prog.funcNamed Tryd.f7.name = some f) (hfn : Tryd.pinned.checked.prog.funcs[f]? = some fn) :
    true = Tryd.pinned.checked.prog.looks [] ∧ ∀ (j : Nat) t, fn.params[j]? = some t → Tryd.pinned.checked.prog.wantsStandIn t = false := by
  obtain rfl : f = 7 := Option.some.inj ((show Tryd.prog.funcNamed Tryd.f7.name = some 7 by kernel_rfl).symm.trans hf) |>.symm
  obtain rfl : fn = Tryd.f7 := (Option.some.inj (Tryd.func7.symm.trans hfn)).symm
  refine ⟨by kernel_rfl, fun j t ht => ?_⟩
  have : (Tryd.f7.params.toList.all fun t => !Tryd.prog.wantsStandIn t) = true := by kernel_rfl
  have h2 := List.all_eq_true.1 this t (Array.mem_toList_iff.2 (Array.mem_of_getElem? ht))
  have h3 : Tryd.prog.wantsStandIn t = false := by simpa using h2
  exact h3
end policiesMovedClose
theorem policiesMoved_card : Rows.PoliciesMovedCardSaid :=
  Claim7.holds_tied_plain_at .later [] _ _ _ _ policiesMovedClose.said (fun _ h => by cases h) (by kernel_rfl) (fun _ h => by cases h) policiesMoved_row_tie rfl ⟨rfl, rfl⟩ (by kernel_rfl) rfl policiesMovedClose.plain (by kernel_rfl)
end Go.Proofs.YtilmhlbjjfgeoaaDoor
end
