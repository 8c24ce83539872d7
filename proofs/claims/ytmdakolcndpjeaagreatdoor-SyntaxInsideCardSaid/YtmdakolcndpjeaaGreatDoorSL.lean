/-
 Part of the proof: SL.
-/
import Derived.Test.YtmdakolcndpjeaaGreatDoorSK
set_option linter.unusedSimpArgs false
set_option linter.unusedVariables false
set_option linter.constructorNameAsVariable false
section
namespace Go.Proofs.YtmdakolcndpjeaaGreatDoor
open Go.AE Go.Lex Go.Pol Go.Syn
theorem textE_ok {l : List Tk} (h : Valid l) : textE l = 0 := by
 unfold textE
 rw [if_pos]
 exact List.all_eq_true.2 fun t ht => h t ht
theorem textS_ok {l : List Tk} (h : Valid l) : textS l = joinS l := by
 unfold textS
 rw [if_pos]
 exact List.all_eq_true.2 fun t ht => h t ht
end Go.Proofs.YtmdakolcndpjeaaGreatDoor
end
