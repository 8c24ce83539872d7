/-
  DERIVED. GIVEN WITH THE SEED: THE CARDS: each row of YtilmhlbjjfgeoaaDoorRows.lean that lists a variable, with what it lists TIED to the program's text (the seventh form; the later family's looks); each row that meets fmt, with fmt's text TOLD by the authors' own Lean function (tested against real Go, not proved from fmt's source: count such statements apart). THE CARD IS WHAT COUNTS. Prove the row's statement (the work); the ties are given (YtilmhlbjjfgeoaaDoorTie.lean); close each card by the builder's one call (the guide's Derived/Test/ToyasCard.lean, 'card_holds'). Laid BY PROGRAM, IN A SANDBOX (cutbox-door.mjs). By AI agents, Wed Nov 11 2026. No macro, syntax, notation, axiom, sorry.
-/
import Derived.Test.YtilmhlbjjfgeoaaDoorRows
import GoSem.ClaimSeven
namespace Go.Proofs.YtilmhlbjjfgeoaaDoor
namespace Rows

/-- THE TIED CARD OF 'signatorylaw20.PoliciesSpec'. -/
def policiesSpecCard : Claim7 := { stood := { row := policiesSpecRow, standIns := [], harness := (true, "2c62ff1c68106a3e2dd1d8667ad14ca4c195bd14f84b18de63a3282a31ca610f"), looks := true }, kinds := [], alts := [], laidByText := true, laidKinds := [.funcs], laidTests := true, laidLooks := .later }
def PoliciesSpecCardSaid : Prop := Claim7.holds Tryd.pinned (.plain (OpenSpec.ofChange policiesSpecSpec)) policiesSpecCard

/-- THE TIED CARD OF 'signatorylaw20.PoliciesVersionsSpec'. -/
def policiesVersionsSpecCard : Claim7 := { stood := { row := policiesVersionsSpecRow, standIns := [], harness := (true, "2c62ff1c68106a3e2dd1d8667ad14ca4c195bd14f84b18de63a3282a31ca610f"), looks := true }, kinds := [], alts := [], laidByText := true, laidKinds := [.funcs], laidTests := true, laidLooks := .later }
def PoliciesVersionsSpecCardSaid : Prop := Claim7.holds Tryd.pinned (.plain (OpenSpec.ofChange policiesVersionsSpecSpec)) policiesVersionsSpecCard

/-- THE TIED CARD OF 'signatorylaw20.PoliciesMean'. -/
def policiesMeanCard : Claim7 := { stood := { row := policiesMeanRow, standIns := [], harness := (true, "2c62ff1c68106a3e2dd1d8667ad14ca4c195bd14f84b18de63a3282a31ca610f"), looks := true }, kinds := [], alts := [], laidByText := true, laidKinds := [.funcs], laidTests := true, laidLooks := .later }
def PoliciesMeanCardSaid : Prop := Claim7.holds Tryd.pinned (.plain (OpenSpec.ofChange policiesMeanSpec)) policiesMeanCard

/-- THE TIED CARD OF 'signatorylaw20.PoliciesTwice'. -/
def policiesTwiceCard : Claim7 := { stood := { row := policiesTwiceRow, standIns := [], harness := (true, "2c62ff1c68106a3e2dd1d8667ad14ca4c195bd14f84b18de63a3282a31ca610f"), looks := true }, kinds := [], alts := [], laidByText := true, laidKinds := [.funcs], laidTests := true, laidLooks := .later }
def PoliciesTwiceCardSaid : Prop := Claim7.holds Tryd.pinned (.plain (OpenSpec.ofChange policiesTwiceSpec)) policiesTwiceCard

/-- THE TIED CARD OF 'signatorylaw20.PoliciesMoved'. -/
def policiesMovedCard : Claim7 := { stood := { row := policiesMovedRow, standIns := [], harness := (true, "2c62ff1c68106a3e2dd1d8667ad14ca4c195bd14f84b18de63a3282a31ca610f"), looks := true }, kinds := [], alts := [], laidByText := true, laidKinds := [.funcs], laidTests := true, laidLooks := .later }
def PoliciesMovedCardSaid : Prop := Claim7.holds Tryd.pinned (.plain (OpenSpec.ofChange policiesMovedSpec)) policiesMovedCard

/-- THE TIED CARD OF 'signatorylaw20.PoliciesForce'. -/
def policiesForceCard : Claim7 := { stood := { row := policiesForceRow, standIns := [], harness := (true, "2c62ff1c68106a3e2dd1d8667ad14ca4c195bd14f84b18de63a3282a31ca610f"), looks := true }, kinds := [], alts := [], laidByText := true, laidKinds := [.funcs], laidTests := true, laidLooks := .later }
def PoliciesForceCardSaid : Prop := Claim7.holds Tryd.pinned (.plain (OpenSpec.ofChange policiesForceSpec)) policiesForceCard

/-- THE SECOND FORM's CARD OF 'signatorylaw20.PoliciesSpec'. -/
def policiesSpecUptoCard : Claim7 := { stood := { row := policiesSpecUptoRow, standIns := [], harness := (true, "2c62ff1c68106a3e2dd1d8667ad14ca4c195bd14f84b18de63a3282a31ca610f"), looks := true }, kinds := [], alts := [], laidByText := true, laidKinds := [.funcs], laidTests := true, laidLooks := .later }
def PoliciesSpecUptoCardSaid : Prop := Claim7.holds Tryd.pinned (.plain (OpenSpec.upto policiesSpecSpec)) policiesSpecUptoCard

/-- THE SECOND FORM's CARD OF 'signatorylaw20.PoliciesVersionsSpec'. -/
def policiesVersionsSpecUptoCard : Claim7 := { stood := { row := policiesVersionsSpecUptoRow, standIns := [], harness := (true, "2c62ff1c68106a3e2dd1d8667ad14ca4c195bd14f84b18de63a3282a31ca610f"), looks := true }, kinds := [], alts := [], laidByText := true, laidKinds := [.funcs], laidTests := true, laidLooks := .later }
def PoliciesVersionsSpecUptoCardSaid : Prop := Claim7.holds Tryd.pinned (.plain (OpenSpec.upto policiesVersionsSpecSpec)) policiesVersionsSpecUptoCard

/-- THE SECOND FORM's CARD OF 'signatorylaw20.PoliciesMean'. -/
def policiesMeanUptoCard : Claim7 := { stood := { row := policiesMeanUptoRow, standIns := [], harness := (true, "2c62ff1c68106a3e2dd1d8667ad14ca4c195bd14f84b18de63a3282a31ca610f"), looks := true }, kinds := [], alts := [], laidByText := true, laidKinds := [.funcs], laidTests := true, laidLooks := .later }
def PoliciesMeanUptoCardSaid : Prop := Claim7.holds Tryd.pinned (.plain (OpenSpec.upto policiesMeanSpec)) policiesMeanUptoCard

/-- THE SECOND FORM's CARD OF 'signatorylaw20.PoliciesTwice'. -/
def policiesTwiceUptoCard : Claim7 := { stood := { row := policiesTwiceUptoRow, standIns := [], harness := (true, "2c62ff1c68106a3e2dd1d8667ad14ca4c195bd14f84b18de63a3282a31ca610f"), looks := true }, kinds := [], alts := [], laidByText := true, laidKinds := [.funcs], laidTests := true, laidLooks := .later }
def PoliciesTwiceUptoCardSaid : Prop := Claim7.holds Tryd.pinned (.plain (OpenSpec.upto policiesTwiceSpec)) policiesTwiceUptoCard

/-- THE SECOND FORM's CARD OF 'signatorylaw20.PoliciesMoved'. -/
def policiesMovedUptoCard : Claim7 := { stood := { row := policiesMovedUptoRow, standIns := [], harness := (true, "2c62ff1c68106a3e2dd1d8667ad14ca4c195bd14f84b18de63a3282a31ca610f"), looks := true }, kinds := [], alts := [], laidByText := true, laidKinds := [.funcs], laidTests := true, laidLooks := .later }
def PoliciesMovedUptoCardSaid : Prop := Claim7.holds Tryd.pinned (.plain (OpenSpec.upto policiesMovedSpec)) policiesMovedUptoCard

/-- THE SECOND FORM's CARD OF 'signatorylaw20.PoliciesForce'. -/
def policiesForceUptoCard : Claim7 := { stood := { row := policiesForceUptoRow, standIns := [], harness := (true, "2c62ff1c68106a3e2dd1d8667ad14ca4c195bd14f84b18de63a3282a31ca610f"), looks := true }, kinds := [], alts := [], laidByText := true, laidKinds := [.funcs], laidTests := true, laidLooks := .later }
def PoliciesForceUptoCardSaid : Prop := Claim7.holds Tryd.pinned (.plain (OpenSpec.upto policiesForceSpec)) policiesForceUptoCard
end Rows
end Go.Proofs.YtilmhlbjjfgeoaaDoor
