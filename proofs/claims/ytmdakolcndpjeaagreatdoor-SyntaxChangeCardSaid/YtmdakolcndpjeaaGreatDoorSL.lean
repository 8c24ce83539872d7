/-
 Part of the proof: SL.
-/
import Derived.Test.YtmdakolcndpjeaaGreatDoorSK
set_option linter.unusedSimpArgs false
set_option linter.unusedVariables false
set_option linter.constructorNameAsVariable false
section
namespace Go.Proofs.YtmdakolcndpjeaaGreatDoor
open Go.AE Go.Lex Go.Pol Go.Syn
theorem cv_iu (n : Int) (h : Heap) : convEv Tryz.prog h 3 48 (.v (.int .i64 n)) = some (.v (.int .u64 (IntKind.u64.wrap n)), h) := by kernel_rfl
theorem cv_ui (n : Int) (h : Heap) : convEv Tryz.prog h 48 3 (.v (.int .u64 n)) = some (.v (.int .i64 (IntKind.i64.wrap n)), h) := by kernel_rfl
theorem u64_nonneg (n : Int) : 0 ≤ IntKind.u64.wrap n ∧ IntKind.u64.wrap n < 18446744073709551616 := by
 unfold IntKind.wrap
 simp [IntKind.signed, IntKind.bits]
 omega
theorem rem_ix (n : Int) {l : Nat} (h0 : 0 < l) (h1 : l ≤ 65536) : ∃ i : Nat, i < l ∧ IntKind.i64.wrap (Int.tmod (IntKind.u64.wrap n) (IntKind.u64.wrap (l : Int))) = (i : Int) ∧ IntKind.u64.wrap (l : Int) ≠ 0 := by
 obtain ⟨a, b⟩ := u64_nonneg n
 generalize IntKind.u64.wrap n = m at *
 have hl : IntKind.u64.wrap (l : Int) = (l : Int) := by
  unfold IntKind.wrap
  simp [IntKind.signed, IntKind.bits]
  omega
 rw [hl, Int.tmod_eq_emod_of_nonneg a]
 have hi : 0 ≤ m % (l : Int) := Int.emod_nonneg _ (by omega)
 have hj : m % (l : Int) < (l : Int) := Int.emod_lt_of_pos _ (by omega)
 refine ⟨(m % (l : Int)).toNat, by omega, ?_, by omega⟩
 unfold IntKind.wrap
 simp [IntKind.signed, IntKind.bits]
 omega
theorem valid_take {l : List Tk} (h : Valid l) (i : Nat) : Valid (l.take i) := fun t ht => h t (List.mem_of_mem_take ht)
theorem textE_ok {l : List Tk} (h : Valid l) : textE l = 0 := by
 unfold textE
 rw [if_pos]
 exact List.all_eq_true.2 fun t ht => h t ht
theorem textS_ok {l : List Tk} (h : Valid l) : textS l = joinS l := by
 unfold textS
 rw [if_pos]
 exact List.all_eq_true.2 fun t ht => h t ht
end Go.Proofs.YtmdakolcndpjeaaGreatDoor
end
