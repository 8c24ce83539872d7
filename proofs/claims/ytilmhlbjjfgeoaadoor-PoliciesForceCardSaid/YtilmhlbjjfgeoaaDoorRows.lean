/-
  NARROWER THAN 'FOR EVERY INPUT', by the rows' own cells (each row's printed sentence says how): PoliciesSpec: loops, laid · PoliciesVersionsSpec: loops, laid · PoliciesMean: loops, laid · PoliciesTwice: loops, laid · PoliciesMoved: loops, laid · PoliciesForce: loops, laid.
  DERIVED. THE GIVEN ROWS OF THIS SEAT. 6 by the template 'for every input the law returns true; each argument reads behind the call as it read before'; 0 by the template 'total and deterministic' (their statements: YtilmhlbjjfgeoaaDoorTotals.lean).
  GIVEN WITH THE SEED: the statements are not yours to turn. If you find one false, say at which input.
  Laid BY PROGRAM, IN A SANDBOX (cutbox-rows.mjs): the forced cells as the released guide's own fill.sh prints them over the translation bb5c25d46ff9c536… (all of the seat's roots in one cut). By AI agents, Wed Nov 11 2026. No macro, syntax, notation, axiom, sorry.
-/
import Derived.Test.YtilmhlbjjfgeoaaDoorChecked
import GoSem.Claim
import GoSem.ClaimJoined
import GoSem.ClaimMapViews
import Derived.JoinedTies
import Derived.KernelRfl
namespace Go.Proofs.YtilmhlbjjfgeoaaDoor
/- THE CELL 'sum', in the pinned program and in every row, IS THE sha256 OF THE DUMP (.gsa) THAT YtilmhlbjjfgeoaaDoorProg.lean LOADS. Nothing in Lean hashes anything: it is a label: what it is worth is what the hold of that sum in a sandbox is worth. -/
noncomputable def Tryd.pinned : Pinned := { name := "ytilmhlbjjfgeoaadoor", sum := "bb5c25d46ff9c5364d113c9c2785a00209e44621290ec9477aa7b0d6c078a997", checked := Tryd.checked }
namespace Rows
def none {H : Type} : Left H := { results := [], args := [] }

/- WHAT THE LISTED PACKAGE-LEVEL VARIABLES READ AS WHEN THE CALL BEGINS. Each datum BY PROGRAM (the guide's laid-datum.mjs) off the statement by which the dump's own 'gosem.cut.vars' lays the variable. In a bare row this is a premise. The card (YtilmhlbjjfgeoaaDoorCards.lean) ties it to the program's text. -/
def laid_signatory_policies_kinds {H : Type} : DataW H := .iface "func table" (.agg [.iface "func" (.lit (.string [115, 105, 103, 110, 97, 116, 111, 114, 121, 47, 112, 111, 108, 105, 99, 105, 101, 115, 46, 107, 105, 110, 100, 115, 36, 49])), .iface "func" (.lit (.string [115, 105, 103, 110, 97, 116, 111, 114, 121, 47, 112, 111, 108, 105, 99, 105, 101, 115, 46, 107, 105, 110, 100, 115, 36, 50])), .iface "func" (.lit (.string [115, 105, 103, 110, 97, 116, 111, 114, 121, 47, 112, 111, 108, 105, 99, 105, 101, 115, 46, 107, 105, 110, 100, 115, 36, 51])), .iface "func" (.lit (.string [115, 105, 103, 110, 97, 116, 111, 114, 121, 47, 112, 111, 108, 105, 99, 105, 101, 115, 46, 107, 105, 110, 100, 115, 36, 52])), .iface "func" (.lit (.string [115, 105, 103, 110, 97, 116, 111, 114, 121, 47, 112, 111, 108, 105, 99, 105, 101, 115, 46, 107, 105, 110, 100, 115, 36, 53]))])

/-- 'signatorylaw20.PoliciesSpec': WHATEVER THE INPUT: true; the input reads as it did. -/
def policiesSpecSpec : ChangeSpec := { name := "policiesSpec", fn := fun _ => fun
  | [d] => { results := [.lit (.bool true)], args := [d] }
  | _ => none }
def policiesSpecRow : OpenClaim := { program := "ytilmhlbjjfgeoaadoor", sum := "bb5c25d46ff9c5364d113c9c2785a00209e44621290ec9477aa7b0d6c078a997", func := "signatory/signatorylaw20.PoliciesSpec", spec := "policiesSpec", inPlace := ["internal/bytealg.IndexByteString"], unfollowed := true, recurses := true, named := ["signatory/policies.kinds"], loops := true, apart := false, laid := [("signatory/policies.kinds", laid_signatory_policies_kinds)] }
def PoliciesSpecSaid : Prop := policiesSpecRow.holds Tryd.pinned (OpenSpec.ofChange policiesSpecSpec)

/-- ITS FALSE NEIGHBOUR: 'it returns false'. Refute it at one input. -/
def policiesSpecWrong : ChangeSpec := { name := "policiesSpec", fn := fun _ => fun
  | [d] => { results := [.lit (.bool false)], args := [d] }
  | _ => none }
def PoliciesSpecWrongFalsely : Prop := policiesSpecRow.holds Tryd.pinned (OpenSpec.ofChange policiesSpecWrong)

/-- 'signatorylaw20.PoliciesVersionsSpec': WHATEVER THE INPUT: true; the input reads as it did. -/
def policiesVersionsSpecSpec : ChangeSpec := { name := "policiesVersionsSpec", fn := fun _ => fun
  | [d1, d2, d3] => { results := [.lit (.bool true)], args := [d1, d2, d3] }
  | _ => none }
def policiesVersionsSpecRow : OpenClaim := { program := "ytilmhlbjjfgeoaadoor", sum := "bb5c25d46ff9c5364d113c9c2785a00209e44621290ec9477aa7b0d6c078a997", func := "signatory/signatorylaw20.PoliciesVersionsSpec", spec := "policiesVersionsSpec", inPlace := ["internal/bytealg.IndexByteString"], unfollowed := true, recurses := true, named := ["signatory/policies.kinds"], loops := true, apart := false, laid := [("signatory/policies.kinds", laid_signatory_policies_kinds)] }
def PoliciesVersionsSpecSaid : Prop := policiesVersionsSpecRow.holds Tryd.pinned (OpenSpec.ofChange policiesVersionsSpecSpec)

/-- ITS FALSE NEIGHBOUR: 'it returns false'. Refute it at one input. -/
def policiesVersionsSpecWrong : ChangeSpec := { name := "policiesVersionsSpec", fn := fun _ => fun
  | [d1, d2, d3] => { results := [.lit (.bool false)], args := [d1, d2, d3] }
  | _ => none }
def PoliciesVersionsSpecWrongFalsely : Prop := policiesVersionsSpecRow.holds Tryd.pinned (OpenSpec.ofChange policiesVersionsSpecWrong)

/-- 'signatorylaw20.PoliciesMean': WHATEVER THE INPUT: true; the input reads as it did. -/
def policiesMeanSpec : ChangeSpec := { name := "policiesMean", fn := fun _ => fun
  | [d] => { results := [.lit (.bool true)], args := [d] }
  | _ => none }
def policiesMeanRow : OpenClaim := { program := "ytilmhlbjjfgeoaadoor", sum := "bb5c25d46ff9c5364d113c9c2785a00209e44621290ec9477aa7b0d6c078a997", func := "signatory/signatorylaw20.PoliciesMean", spec := "policiesMean", inPlace := ["internal/bytealg.IndexByteString"], unfollowed := true, recurses := true, named := ["signatory/policies.kinds"], loops := true, apart := false, laid := [("signatory/policies.kinds", laid_signatory_policies_kinds)] }
def PoliciesMeanSaid : Prop := policiesMeanRow.holds Tryd.pinned (OpenSpec.ofChange policiesMeanSpec)

/-- ITS FALSE NEIGHBOUR: 'it returns false'. Refute it at one input. -/
def policiesMeanWrong : ChangeSpec := { name := "policiesMean", fn := fun _ => fun
  | [d] => { results := [.lit (.bool false)], args := [d] }
  | _ => none }
def PoliciesMeanWrongFalsely : Prop := policiesMeanRow.holds Tryd.pinned (OpenSpec.ofChange policiesMeanWrong)

/-- 'signatorylaw20.PoliciesTwice': WHATEVER THE INPUT: true; the input reads as it did. -/
def policiesTwiceSpec : ChangeSpec := { name := "policiesTwice", fn := fun _ => fun
  | [d1, d2] => { results := [.lit (.bool true)], args := [d1, d2] }
  | _ => none }
def policiesTwiceRow : OpenClaim := { program := "ytilmhlbjjfgeoaadoor", sum := "bb5c25d46ff9c5364d113c9c2785a00209e44621290ec9477aa7b0d6c078a997", func := "signatory/signatorylaw20.PoliciesTwice", spec := "policiesTwice", inPlace := ["internal/bytealg.IndexByteString"], unfollowed := true, recurses := true, named := ["signatory/policies.kinds"], loops := true, apart := false, laid := [("signatory/policies.kinds", laid_signatory_policies_kinds)] }
def PoliciesTwiceSaid : Prop := policiesTwiceRow.holds Tryd.pinned (OpenSpec.ofChange policiesTwiceSpec)

/-- ITS FALSE NEIGHBOUR: 'it returns false'. Refute it at one input. -/
def policiesTwiceWrong : ChangeSpec := { name := "policiesTwice", fn := fun _ => fun
  | [d1, d2] => { results := [.lit (.bool false)], args := [d1, d2] }
  | _ => none }
def PoliciesTwiceWrongFalsely : Prop := policiesTwiceRow.holds Tryd.pinned (OpenSpec.ofChange policiesTwiceWrong)

/-- 'signatorylaw20.PoliciesMoved': WHATEVER THE INPUT: true; the input reads as it did. -/
def policiesMovedSpec : ChangeSpec := { name := "policiesMoved", fn := fun _ => fun
  | [d1, d2] => { results := [.lit (.bool true)], args := [d1, d2] }
  | _ => none }
def policiesMovedRow : OpenClaim := { program := "ytilmhlbjjfgeoaadoor", sum := "bb5c25d46ff9c5364d113c9c2785a00209e44621290ec9477aa7b0d6c078a997", func := "signatory/signatorylaw20.PoliciesMoved", spec := "policiesMoved", inPlace := ["internal/bytealg.IndexByteString"], unfollowed := true, recurses := true, named := ["signatory/policies.kinds"], loops := true, apart := false, laid := [("signatory/policies.kinds", laid_signatory_policies_kinds)] }
def PoliciesMovedSaid : Prop := policiesMovedRow.holds Tryd.pinned (OpenSpec.ofChange policiesMovedSpec)

/-- ITS FALSE NEIGHBOUR: 'it returns false'. Refute it at one input. -/
def policiesMovedWrong : ChangeSpec := { name := "policiesMoved", fn := fun _ => fun
  | [d1, d2] => { results := [.lit (.bool false)], args := [d1, d2] }
  | _ => none }
def PoliciesMovedWrongFalsely : Prop := policiesMovedRow.holds Tryd.pinned (OpenSpec.ofChange policiesMovedWrong)

/-- 'signatorylaw20.PoliciesForce': WHATEVER THE INPUT: true; the input reads as it did. -/
def policiesForceSpec : ChangeSpec := { name := "policiesForce", fn := fun _ => fun
  | [d1, d2, d3] => { results := [.lit (.bool true)], args := [d1, d2, d3] }
  | _ => none }
def policiesForceRow : OpenClaim := { program := "ytilmhlbjjfgeoaadoor", sum := "bb5c25d46ff9c5364d113c9c2785a00209e44621290ec9477aa7b0d6c078a997", func := "signatory/signatorylaw20.PoliciesForce", spec := "policiesForce", inPlace := ["internal/bytealg.IndexByteString"], unfollowed := true, recurses := true, named := ["signatory/policies.kinds"], loops := true, apart := false, laid := [("signatory/policies.kinds", laid_signatory_policies_kinds)] }
def PoliciesForceSaid : Prop := policiesForceRow.holds Tryd.pinned (OpenSpec.ofChange policiesForceSpec)

/-- ITS FALSE NEIGHBOUR: 'it returns false'. Refute it at one input. -/
def policiesForceWrong : ChangeSpec := { name := "policiesForce", fn := fun _ => fun
  | [d1, d2, d3] => { results := [.lit (.bool false)], args := [d1, d2, d3] }
  | _ => none }
def PoliciesForceWrongFalsely : Prop := policiesForceRow.holds Tryd.pinned (OpenSpec.ofChange policiesForceWrong)

/- THE SECOND FORM. 'bulk': how many values and letters a reading holds, each counted each time it is reached (what is shared counts as often as it is met; a slice's spare places count too). A statement '..UptoSaid' is the law's where the arguments, and the package variables that the reading takes, are together of bulk at most 1048576: NARROWER than '..Said'. Prove '..Said' where nothing that the law and all that it calls make is longer than what came in: it says more and counts as full. Else prove '..UptoSaid'. A law counts once. -/
mutual
def uptoBulk {H : Type} : DataW H → Nat
  | .lit (.string bytes) => bytes.length + 1
  | .lit _ => 1
  | .nil => 1
  | .ptr d => uptoBulk d + 1
  | .slice elems spare => uptoBulkAll elems + uptoBulkAll spare + 1
  | .agg parts => uptoBulkAll parts + 1
  | .iface _ d => uptoBulk d + 1
  | .map entries => uptoBulkEntries entries + 1
  | .held _ => 1
def uptoBulkAll {H : Type} : List (DataW H) → Nat
  | [] => 0
  | d :: r => uptoBulk d + uptoBulkAll r
def uptoBulkEntries {H : Type} : List (Lit × DataW H) → Nat
  | [] => 0
  | x :: r => uptoBulkEntry x + uptoBulkEntries r
def uptoBulkEntry {H : Type} : Lit × DataW H → Nat
  | (.string bytes, d) => bytes.length + uptoBulk d + 1
  | (_, d) => uptoBulk d + 1
 end
def uptoSmall : (H : Type) → List (DataW H) → Bool := fun _ ds => decide (uptoBulkAll ds ≤ 1048576)
def OpenSpec.upto (s : _root_.Go.ChangeSpec) : _root_.Go.OpenSpec := { _root_.Go.OpenSpec.ofChange s with cond := some uptoSmall }

/-- 'signatorylaw20.PoliciesSpec', WHERE WHAT IT READS IS OF BULK AT MOST 1048576: true; the input reads as it did. -/
def policiesSpecUptoRow : OpenClaim := { program := "ytilmhlbjjfgeoaadoor", sum := "bb5c25d46ff9c5364d113c9c2785a00209e44621290ec9477aa7b0d6c078a997", func := "signatory/signatorylaw20.PoliciesSpec", spec := "policiesSpec", inPlace := ["internal/bytealg.IndexByteString"], unfollowed := true, recurses := true, named := ["signatory/policies.kinds"], loops := true, apart := false, laid := [("signatory/policies.kinds", laid_signatory_policies_kinds)], narrowed := true }
def PoliciesSpecUptoSaid : Prop := policiesSpecUptoRow.holds Tryd.pinned (OpenSpec.upto policiesSpecSpec)

/-- 'signatorylaw20.PoliciesVersionsSpec', WHERE WHAT IT READS IS OF BULK AT MOST 1048576: true; the input reads as it did. -/
def policiesVersionsSpecUptoRow : OpenClaim := { program := "ytilmhlbjjfgeoaadoor", sum := "bb5c25d46ff9c5364d113c9c2785a00209e44621290ec9477aa7b0d6c078a997", func := "signatory/signatorylaw20.PoliciesVersionsSpec", spec := "policiesVersionsSpec", inPlace := ["internal/bytealg.IndexByteString"], unfollowed := true, recurses := true, named := ["signatory/policies.kinds"], loops := true, apart := false, laid := [("signatory/policies.kinds", laid_signatory_policies_kinds)], narrowed := true }
def PoliciesVersionsSpecUptoSaid : Prop := policiesVersionsSpecUptoRow.holds Tryd.pinned (OpenSpec.upto policiesVersionsSpecSpec)

/-- 'signatorylaw20.PoliciesMean', WHERE WHAT IT READS IS OF BULK AT MOST 1048576: true; the input reads as it did. -/
def policiesMeanUptoRow : OpenClaim := { program := "ytilmhlbjjfgeoaadoor", sum := "bb5c25d46ff9c5364d113c9c2785a00209e44621290ec9477aa7b0d6c078a997", func := "signatory/signatorylaw20.PoliciesMean", spec := "policiesMean", inPlace := ["internal/bytealg.IndexByteString"], unfollowed := true, recurses := true, named := ["signatory/policies.kinds"], loops := true, apart := false, laid := [("signatory/policies.kinds", laid_signatory_policies_kinds)], narrowed := true }
def PoliciesMeanUptoSaid : Prop := policiesMeanUptoRow.holds Tryd.pinned (OpenSpec.upto policiesMeanSpec)

/-- 'signatorylaw20.PoliciesTwice', WHERE WHAT IT READS IS OF BULK AT MOST 1048576: true; the input reads as it did. -/
def policiesTwiceUptoRow : OpenClaim := { program := "ytilmhlbjjfgeoaadoor", sum := "bb5c25d46ff9c5364d113c9c2785a00209e44621290ec9477aa7b0d6c078a997", func := "signatory/signatorylaw20.PoliciesTwice", spec := "policiesTwice", inPlace := ["internal/bytealg.IndexByteString"], unfollowed := true, recurses := true, named := ["signatory/policies.kinds"], loops := true, apart := false, laid := [("signatory/policies.kinds", laid_signatory_policies_kinds)], narrowed := true }
def PoliciesTwiceUptoSaid : Prop := policiesTwiceUptoRow.holds Tryd.pinned (OpenSpec.upto policiesTwiceSpec)

/-- 'signatorylaw20.PoliciesMoved', WHERE WHAT IT READS IS OF BULK AT MOST 1048576: true; the input reads as it did. -/
def policiesMovedUptoRow : OpenClaim := { program := "ytilmhlbjjfgeoaadoor", sum := "bb5c25d46ff9c5364d113c9c2785a00209e44621290ec9477aa7b0d6c078a997", func := "signatory/signatorylaw20.PoliciesMoved", spec := "policiesMoved", inPlace := ["internal/bytealg.IndexByteString"], unfollowed := true, recurses := true, named := ["signatory/policies.kinds"], loops := true, apart := false, laid := [("signatory/policies.kinds", laid_signatory_policies_kinds)], narrowed := true }
def PoliciesMovedUptoSaid : Prop := policiesMovedUptoRow.holds Tryd.pinned (OpenSpec.upto policiesMovedSpec)

/-- 'signatorylaw20.PoliciesForce', WHERE WHAT IT READS IS OF BULK AT MOST 1048576: true; the input reads as it did. -/
def policiesForceUptoRow : OpenClaim := { program := "ytilmhlbjjfgeoaadoor", sum := "bb5c25d46ff9c5364d113c9c2785a00209e44621290ec9477aa7b0d6c078a997", func := "signatory/signatorylaw20.PoliciesForce", spec := "policiesForce", inPlace := ["internal/bytealg.IndexByteString"], unfollowed := true, recurses := true, named := ["signatory/policies.kinds"], loops := true, apart := false, laid := [("signatory/policies.kinds", laid_signatory_policies_kinds)], narrowed := true }
def PoliciesForceUptoSaid : Prop := policiesForceUptoRow.holds Tryd.pinned (OpenSpec.upto policiesForceSpec)

end Rows
end Go.Proofs.YtilmhlbjjfgeoaaDoor
