/-
  DERIVED. GIVEN WITH THE SEED: THE CARDS: each row of YtcbhpkjbiehcpaaGreatDoorRows.lean that lists a variable, with what it lists TIED to the program's text (the seventh form; the later family's looks); each row that meets fmt, with fmt's text TOLD by the authors' own Lean function (tested against real Go, not proved from fmt's source: count such statements apart). THE CARD IS WHAT COUNTS. Prove the row's statement (the work); the ties are given (YtcbhpkjbiehcpaaGreatDoorTie.lean); close each card by the builder's one call (the guide's Derived/Test/ToyasCard.lean, 'card_holds'). Laid BY PROGRAM, IN A SANDBOX (cutbox-door.mjs). By AI agents, Wed Nov 11 2026. No macro, syntax, notation, axiom, sorry.
-/
import Derived.Test.YtcbhpkjbiehcpaaGreatDoorRows
import GoSem.ClaimSeven
namespace Go.Proofs.YtcbhpkjbiehcpaaGreatDoor
namespace Rows

/-- THE TIED CARD OF 'signatorylaw44.CeremonySpec'. -/
def ceremonySpecCard : Claim7 := { stood := { row := ceremonySpecRow, standIns := [], harness := (true, "4f098b6fa34630ee87e11a7e766b739da41b120a35c68b3d993abd3b327c853c"), looks := true }, kinds := [], alts := [], laidByText := true, laidKinds := [.data, .data], laidTests := true, laidLooks := .later }
def CeremonySpecCardSaid : Prop := Claim7.holds Tryz.pinned (.plain (OpenSpec.ofChange ceremonySpecSpec)) ceremonySpecCard

/-- THE TIED CARD OF 'signatorylaw44.CeremonyDoSpec'. -/
def ceremonyDoSpecCard : Claim7 := { stood := { row := ceremonyDoSpecRow, standIns := [], harness := (true, "4f098b6fa34630ee87e11a7e766b739da41b120a35c68b3d993abd3b327c853c"), looks := true }, kinds := [], alts := [], laidByText := true, laidKinds := [.data, .data], laidTests := true, laidLooks := .later }
def CeremonyDoSpecCardSaid : Prop := Claim7.holds Tryz.pinned (.plain (OpenSpec.ofChange ceremonyDoSpecSpec)) ceremonyDoSpecCard

/-- THE TIED CARD OF 'signatorylaw44.CeremonySigned'. -/
def ceremonySignedCard : Claim7 := { stood := { row := ceremonySignedRow, standIns := [], harness := (true, "4f098b6fa34630ee87e11a7e766b739da41b120a35c68b3d993abd3b327c853c"), looks := true }, kinds := [], alts := [], laidByText := true, laidKinds := [.data, .data], laidTests := true, laidLooks := .later }
def CeremonySignedCardSaid : Prop := Claim7.holds Tryz.pinned (.plain (OpenSpec.ofChange ceremonySignedSpec)) ceremonySignedCard

/-- THE TIED CARD OF 'signatorylaw44.CeremonyBlamed'. -/
def ceremonyBlamedCard : Claim7 := { stood := { row := ceremonyBlamedRow, standIns := [], harness := (true, "4f098b6fa34630ee87e11a7e766b739da41b120a35c68b3d993abd3b327c853c"), looks := true }, kinds := [], alts := [], laidByText := true, laidKinds := [.data, .data], laidTests := true, laidLooks := .later }
def CeremonyBlamedCardSaid : Prop := Claim7.holds Tryz.pinned (.plain (OpenSpec.ofChange ceremonyBlamedSpec)) ceremonyBlamedCard

/-- THE TIED CARD OF 'signatorylaw44.CeremonyTwice'. -/
def ceremonyTwiceCard : Claim7 := { stood := { row := ceremonyTwiceRow, standIns := [], harness := (true, "4f098b6fa34630ee87e11a7e766b739da41b120a35c68b3d993abd3b327c853c"), looks := true }, kinds := [], alts := [], laidByText := true, laidKinds := [.data, .data], laidTests := true, laidLooks := .later }
def CeremonyTwiceCardSaid : Prop := Claim7.holds Tryz.pinned (.plain (OpenSpec.ofChange ceremonyTwiceSpec)) ceremonyTwiceCard

/-- THE SECOND FORM's CARD OF 'signatorylaw44.CeremonySpec'. -/
def ceremonySpecUptoCard : Claim7 := { stood := { row := ceremonySpecUptoRow, standIns := [], harness := (true, "4f098b6fa34630ee87e11a7e766b739da41b120a35c68b3d993abd3b327c853c"), looks := true }, kinds := [], alts := [], laidByText := true, laidKinds := [.data, .data], laidTests := true, laidLooks := .later }
def CeremonySpecUptoCardSaid : Prop := Claim7.holds Tryz.pinned (.plain (OpenSpec.upto ceremonySpecSpec)) ceremonySpecUptoCard

/-- THE SECOND FORM's CARD OF 'signatorylaw44.CeremonyDoSpec'. -/
def ceremonyDoSpecUptoCard : Claim7 := { stood := { row := ceremonyDoSpecUptoRow, standIns := [], harness := (true, "4f098b6fa34630ee87e11a7e766b739da41b120a35c68b3d993abd3b327c853c"), looks := true }, kinds := [], alts := [], laidByText := true, laidKinds := [.data, .data], laidTests := true, laidLooks := .later }
def CeremonyDoSpecUptoCardSaid : Prop := Claim7.holds Tryz.pinned (.plain (OpenSpec.upto ceremonyDoSpecSpec)) ceremonyDoSpecUptoCard

/-- THE SECOND FORM's CARD OF 'signatorylaw44.CeremonySigned'. -/
def ceremonySignedUptoCard : Claim7 := { stood := { row := ceremonySignedUptoRow, standIns := [], harness := (true, "4f098b6fa34630ee87e11a7e766b739da41b120a35c68b3d993abd3b327c853c"), looks := true }, kinds := [], alts := [], laidByText := true, laidKinds := [.data, .data], laidTests := true, laidLooks := .later }
def CeremonySignedUptoCardSaid : Prop := Claim7.holds Tryz.pinned (.plain (OpenSpec.upto ceremonySignedSpec)) ceremonySignedUptoCard

/-- THE SECOND FORM's CARD OF 'signatorylaw44.CeremonyBlamed'. -/
def ceremonyBlamedUptoCard : Claim7 := { stood := { row := ceremonyBlamedUptoRow, standIns := [], harness := (true, "4f098b6fa34630ee87e11a7e766b739da41b120a35c68b3d993abd3b327c853c"), looks := true }, kinds := [], alts := [], laidByText := true, laidKinds := [.data, .data], laidTests := true, laidLooks := .later }
def CeremonyBlamedUptoCardSaid : Prop := Claim7.holds Tryz.pinned (.plain (OpenSpec.upto ceremonyBlamedSpec)) ceremonyBlamedUptoCard

/-- THE SECOND FORM's CARD OF 'signatorylaw44.CeremonyTwice'. -/
def ceremonyTwiceUptoCard : Claim7 := { stood := { row := ceremonyTwiceUptoRow, standIns := [], harness := (true, "4f098b6fa34630ee87e11a7e766b739da41b120a35c68b3d993abd3b327c853c"), looks := true }, kinds := [], alts := [], laidByText := true, laidKinds := [.data, .data], laidTests := true, laidLooks := .later }
def CeremonyTwiceUptoCardSaid : Prop := Claim7.holds Tryz.pinned (.plain (OpenSpec.upto ceremonyTwiceSpec)) ceremonyTwiceUptoCard
end Rows
end Go.Proofs.YtcbhpkjbiehcpaaGreatDoor
