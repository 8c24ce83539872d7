/-
  PoliciesForce: the law answers true for every input. No condition beyond the row's own.
-/
import Derived.Test.YtilmhlbjjfgeoaaDoorSJ
import Derived.Test.YtilmhlbjjfgeoaaDoorCards
import Derived.Test.YtilmhlbjjfgeoaaDoorTie
import Derived.LaidMore
import Derived.Deep.DeepHandedRow
import Derived.Deep.DeepWitnessRowRef
import Derived.KernelRfl
set_option linter.unusedSimpArgs false
set_option linter.unusedVariables false
set_option linter.constructorNameAsVariable false
section
namespace Go.Proofs.YtilmhlbjjfgeoaaDoor
open Go.AE Go.Lex Go.ChangeShapes Go.WideShapes Go.RowKit
namespace policiesForceClose
theorem len1 {α : Type} {l : List α} (h : l.length = 1) : ∃ a, l = [a] := List.length_eq_one_iff.1 h
theorem facts : LawFactsS Tryd.prog lawTys 8 Tryd.f8 4 := ⟨Tryd.func8, by kernel_rfl, by kernel_rfl, by
  have : (Tryd.f8.params.toList.all fun t => lawTys.contains t && Tryd.prog.readableRec t && decide (t < Tryd.prog.types.size)) = true := by kernel_rfl
  intro t ht
  have := List.all_eq_true.1 this t ht
  simp only [Bool.and_eq_true, decide_eq_true_eq] at this
  exact ⟨this.1.1, this.1.2, this.2⟩, by kernel_rfl, Tryd.underlying4⟩
theorem laid_met (os : Os) (args : Array Value) : laidMetH Tryd.prog Rows.policiesForceRow.laid ((World.doorLaid Tryd.prog 400 os).forCall (fun _ _ => 0) ⟨#[], args, []⟩).memory :=
  laidMetH_of_parts3 (fuel := 8) (laidMet_of_run' 8 (by kernel_rfl) (by kernel_rfl)) (by kernel_rfl) (by kernel_rfl)
theorem reads (os : Os) {H : Type} (enc : TypeId × Value → H) : ∃ places, DataW.whole enc Tryd.prog ((World.doorLaid Tryd.prog 400 os).forCall (fun _ _ => 0) ⟨#[], #[.slice none 0 0, .int .i64 0, .int .i64 0], []⟩).memory Tryd.f8.params.toList Rows.policiesForceSpec.vars false #[Value.slice none 0 0, .int .i64 0, .int .i64 0].toList 8 = some ([.nil, .lit (.int .i64 0), .lit (.int .i64 0)], [], places) :=
  ⟨[], by kernel_rfl⟩
set_option maxRecDepth 100000 in
theorem law {W0 : World} {H : Type} (ds : List (DataW H)) (xs : List AV) (h : HasAll Tryd.prog Tryd.f8.params.toList xs ds) : ∃ h', W.call 8 xs Heap.init = some (.ret (.v (.bool true)), h') := by
  have hp : Tryd.f8.params.toList = [36, 3, 3] := by kernel_rfl
  rw [hp] at h
  obtain ⟨x, xs, d0, ds, rfl, rfl, h0, h⟩ := h.cons_inv
  obtain ⟨y, xs, d1, ds, rfl, rfl, h1, h⟩ := h.cons_inv
  obtain ⟨z, xs, d2, ds, rfl, rfl, h2, h⟩ := h.cons_inv
  obtain rfl := h.nil_inv
  obtain ⟨k0, a0, r0, rfl, q0, b0⟩ := has_versions h0
  obtain ⟨a1, rfl, q1, b1⟩ := h1.i64_inv Tryd.underlying3
  obtain ⟨a2, rfl, q2, b2⟩ := h2.i64_inv Tryd.underlying3
  obtain ⟨h', hh, -⟩ := policiesForce_law k0 a0 r0 q0 b0 a1 a2
  exact ⟨h', hh⟩
set_option maxRecDepth 100000 in
theorem lifted (os : Os) (started : os.Started) (H : Type) (enc : TypeId × Value → H) (F : Stop.Interp) :
    ReturnsInHanded {} Tryd.checked os 8 .any ((OpenSpec.ofChange Rows.policiesForceSpec).preRow enc Tryd.prog Tryd.f8 Rows.policiesForceRow.domain false Rows.policiesForceRow.laid) (((OpenSpec.ofChange Rows.policiesForceSpec).at F).post enc Tryd.prog Tryd.f8 false true false false) := by
  obtain ⟨places, hx⟩ := reads os enc
  refine returnsInHanded_of_row (C := Tryd.checked) (s := OpenSpec.ofChange Rows.policiesForceSpec) seat_own started (by kernel_rfl) Tryd.func8
    (witness_row_atRef (enc := enc) (C := Tryd.checked) false (World.doorLaid Tryd.prog 400 os) #[.slice none 0 0, .int .i64 0, .int .i64 0] rfl (by kernel_rfl) (by kernel_rfl) (by kernel_rfl)
      (OpenSpec.preRow_of_cond 8 hx (by kernel_rfl) (fun k hk => by cases hk) (by kernel_rfl) (laid_met os _))) ?_
  intro W base args ds gs before hval hW _ _ _ hL _ _
  refine law_contractS seat_prog facts rfl (fun ds hl => ?_) hval hW (laid_kinds hL) (fun g p h => prims_ok g p h) (law (W0 := W) ds)
  obtain ⟨d0, d1, d2, rfl⟩ := len3 hl
  exact ⟨rfl, rfl, rfl⟩
theorem said : Rows.PoliciesForceSaid :=
  OpenClaim.holds_of_cond 8 Tryd.f8 rfl rfl rfl rfl rfl rfl rfl ⟨rfl, rfl, rfl, rfl, rfl⟩ rfl rfl rfl rfl rfl (by kernel_rfl) Tryd.func8 (by kernel_rfl)
    (of_decide_eq_true (by kernel_rfl)) (by unfold Func.isWrapper; first | (rw [if_pos (by decide +kernel)]; kernel_rfl) | (rw [if_neg (by decide +kernel)]; exact ⟨rfl, rfl⟩))
    (fun os started H enc _ F => by rw [OpenClaim.pre_eq_preRow]; exact lifted os started H enc F)
theorem plain (f : FuncId) (fn : Func) (hf : Tryd.pinned.checked.prog.funcNamed Tryd.f8.name = some f) (hfn : Tryd.pinned.checked.prog.funcs[f]? = some fn) :
    true = Tryd.pinned.checked.prog.looks [] ∧ ∀ (j : Nat) t, fn.params[j]? = some t → Tryd.pinned.checked.prog.wantsStandIn t = false := by
  obtain rfl : f = 8 := Option.some.inj ((show Tryd.prog.funcNamed Tryd.f8.name = some 8 by kernel_rfl).symm.trans hf) |>.symm
  obtain rfl : fn = Tryd.f8 := (Option.some.inj (Tryd.func8.symm.trans hfn)).symm
  refine ⟨by kernel_rfl, fun j t ht => ?_⟩
  have : (Tryd.f8.params.toList.all fun t => !Tryd.prog.wantsStandIn t) = true := by kernel_rfl
  have h2 := List.all_eq_true.1 this t (Array.mem_toList_iff.2 (Array.mem_of_getElem? ht))
  have h3 : Tryd.prog.wantsStandIn t = false := by simpa using h2
  exact h3
end policiesForceClose
theorem policiesForce_card : Rows.PoliciesForceCardSaid :=
  Claim7.holds_tied_plain_at .later [] _ _ _ _ policiesForceClose.said (fun _ h => by cases h) (by kernel_rfl) (fun _ h => by cases h) policiesForce_row_tie rfl ⟨rfl, rfl⟩ (by kernel_rfl) rfl policiesForceClose.plain (by kernel_rfl)
end Go.Proofs.YtilmhlbjjfgeoaaDoor
end
