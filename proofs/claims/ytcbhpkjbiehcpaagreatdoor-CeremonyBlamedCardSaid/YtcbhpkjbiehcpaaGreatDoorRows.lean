/-
  NARROWER THAN 'FOR EVERY INPUT', by the rows' own cells (each row's printed sentence says how): CeremonySpec: laid · CeremonyDoSpec: laid · CeremonySigned: laid · CeremonyBlamed: laid · CeremonyTwice: laid.
  DERIVED. THE GIVEN ROWS OF THIS SEAT. 5 by the template 'for every input the law returns true; each argument reads behind the call as it read before'; 0 by the template 'total and deterministic' (their statements: YtcbhpkjbiehcpaaGreatDoorTotals.lean).
  GIVEN WITH THE SEED: the statements are not yours to turn. If you find one false, say at which input.
  Laid BY PROGRAM, IN A SANDBOX (cutbox-rows.mjs): the forced cells as the released guide's own fill.sh prints them over the translation 7b35f8c006f9beb7… (all of the seat's roots in one cut). By AI agents, Wed Nov 11 2026. No macro, syntax, notation, axiom, sorry.
-/
import Derived.Test.YtcbhpkjbiehcpaaGreatDoorChecked
import GoSem.Claim
import GoSem.ClaimJoined
import GoSem.ClaimMapViews
import Derived.JoinedTies
import Derived.KernelRfl
namespace Go.Proofs.YtcbhpkjbiehcpaaGreatDoor
/- THE CELL 'sum', in the pinned program and in every row, IS THE sha256 OF THE DUMP (.gsa) THAT YtcbhpkjbiehcpaaGreatDoorProg.lean LOADS. Nothing in Lean hashes anything: it is a label: what it is worth is what the hold of that sum in a sandbox is worth. -/
noncomputable def Tryz.pinned : Pinned := { name := "ytcbhpkjbiehcpaagreatdoor", sum := "7b35f8c006f9beb76190f5ed4e29fbfc4ab3b343807b417b2b474ea93c7e9103", checked := Tryz.checked }
namespace Rows
def none {H : Type} : Left H := { results := [], args := [] }

/- WHAT THE LISTED PACKAGE-LEVEL VARIABLES READ AS WHEN THE CALL BEGINS. Each datum BY PROGRAM (the guide's laid-datum.mjs) off the statement by which the dump's own 'gosem.cut.vars' lays the variable. In a bare row this is a premise. The card (YtcbhpkjbiehcpaaGreatDoorCards.lean) ties it to the program's text. -/
def laid_signatory_digest_start {H : Type} : DataW H := .agg [.lit (.int .u32 1779033703), .lit (.int .u32 3144134277), .lit (.int .u32 1013904242), .lit (.int .u32 2773480762), .lit (.int .u32 1359893119), .lit (.int .u32 2600822924), .lit (.int .u32 528734635), .lit (.int .u32 1541459225)]
def laid_signatory_digest_numbers {H : Type} : DataW H := .agg [.lit (.int .u32 1116352408), .lit (.int .u32 1899447441), .lit (.int .u32 3049323471), .lit (.int .u32 3921009573), .lit (.int .u32 961987163), .lit (.int .u32 1508970993), .lit (.int .u32 2453635748), .lit (.int .u32 2870763221), .lit (.int .u32 3624381080), .lit (.int .u32 310598401), .lit (.int .u32 607225278), .lit (.int .u32 1426881987), .lit (.int .u32 1925078388), .lit (.int .u32 2162078206), .lit (.int .u32 2614888103), .lit (.int .u32 3248222580), .lit (.int .u32 3835390401), .lit (.int .u32 4022224774), .lit (.int .u32 264347078), .lit (.int .u32 604807628), .lit (.int .u32 770255983), .lit (.int .u32 1249150122), .lit (.int .u32 1555081692), .lit (.int .u32 1996064986), .lit (.int .u32 2554220882), .lit (.int .u32 2821834349), .lit (.int .u32 2952996808), .lit (.int .u32 3210313671), .lit (.int .u32 3336571891), .lit (.int .u32 3584528711), .lit (.int .u32 113926993), .lit (.int .u32 338241895), .lit (.int .u32 666307205), .lit (.int .u32 773529912), .lit (.int .u32 1294757372), .lit (.int .u32 1396182291), .lit (.int .u32 1695183700), .lit (.int .u32 1986661051), .lit (.int .u32 2177026350), .lit (.int .u32 2456956037), .lit (.int .u32 2730485921), .lit (.int .u32 2820302411), .lit (.int .u32 3259730800), .lit (.int .u32 3345764771), .lit (.int .u32 3516065817), .lit (.int .u32 3600352804), .lit (.int .u32 4094571909), .lit (.int .u32 275423344), .lit (.int .u32 430227734), .lit (.int .u32 506948616), .lit (.int .u32 659060556), .lit (.int .u32 883997877), .lit (.int .u32 958139571), .lit (.int .u32 1322822218), .lit (.int .u32 1537002063), .lit (.int .u32 1747873779), .lit (.int .u32 1955562222), .lit (.int .u32 2024104815), .lit (.int .u32 2227730452), .lit (.int .u32 2361852424), .lit (.int .u32 2428436474), .lit (.int .u32 2756734187), .lit (.int .u32 3204031479), .lit (.int .u32 3329325298)]

/-- 'signatorylaw44.CeremonySpec': WHATEVER THE INPUT: true; the input reads as it did. -/
def ceremonySpecSpec : ChangeSpec := { name := "ceremonySpec", fn := fun _ => fun
  | [d1, d2, d3, d4] => { results := [.lit (.bool true)], args := [d1, d2, d3, d4] }
  | _ => none }
def ceremonySpecRow : OpenClaim := { program := "ytcbhpkjbiehcpaagreatdoor", sum := "7b35f8c006f9beb76190f5ed4e29fbfc4ab3b343807b417b2b474ea93c7e9103", func := "signatory/signatorylaw44.CeremonySpec", spec := "ceremonySpec", inPlace := ["slices.overlaps[signatory/api.Part]", "slices.overlaps[signatory/api.Pair]"], unfollowed := true, recurses := true, named := ["signatory/digest.start", "signatory/digest.numbers"], apart := false, laid := [("signatory/digest.start", laid_signatory_digest_start), ("signatory/digest.numbers", laid_signatory_digest_numbers)] }
def CeremonySpecSaid : Prop := ceremonySpecRow.holds Tryz.pinned (OpenSpec.ofChange ceremonySpecSpec)

/-- ITS FALSE NEIGHBOUR: 'it returns false'. Refute it at one input. -/
def ceremonySpecWrong : ChangeSpec := { name := "ceremonySpec", fn := fun _ => fun
  | [d1, d2, d3, d4] => { results := [.lit (.bool false)], args := [d1, d2, d3, d4] }
  | _ => none }
def CeremonySpecWrongFalsely : Prop := ceremonySpecRow.holds Tryz.pinned (OpenSpec.ofChange ceremonySpecWrong)

/-- 'signatorylaw44.CeremonyDoSpec': WHATEVER THE INPUT: true; the input reads as it did. -/
def ceremonyDoSpecSpec : ChangeSpec := { name := "ceremonyDoSpec", fn := fun _ => fun
  | [d1, d2, d3] => { results := [.lit (.bool true)], args := [d1, d2, d3] }
  | _ => none }
def ceremonyDoSpecRow : OpenClaim := { program := "ytcbhpkjbiehcpaagreatdoor", sum := "7b35f8c006f9beb76190f5ed4e29fbfc4ab3b343807b417b2b474ea93c7e9103", func := "signatory/signatorylaw44.CeremonyDoSpec", spec := "ceremonyDoSpec", inPlace := ["slices.overlaps[signatory/api.Part]", "slices.overlaps[signatory/api.Pair]"], unfollowed := true, recurses := true, named := ["signatory/digest.start", "signatory/digest.numbers"], apart := false, laid := [("signatory/digest.start", laid_signatory_digest_start), ("signatory/digest.numbers", laid_signatory_digest_numbers)] }
def CeremonyDoSpecSaid : Prop := ceremonyDoSpecRow.holds Tryz.pinned (OpenSpec.ofChange ceremonyDoSpecSpec)

/-- ITS FALSE NEIGHBOUR: 'it returns false'. Refute it at one input. -/
def ceremonyDoSpecWrong : ChangeSpec := { name := "ceremonyDoSpec", fn := fun _ => fun
  | [d1, d2, d3] => { results := [.lit (.bool false)], args := [d1, d2, d3] }
  | _ => none }
def CeremonyDoSpecWrongFalsely : Prop := ceremonyDoSpecRow.holds Tryz.pinned (OpenSpec.ofChange ceremonyDoSpecWrong)

/-- 'signatorylaw44.CeremonySigned': WHATEVER THE INPUT: true; the input reads as it did. -/
def ceremonySignedSpec : ChangeSpec := { name := "ceremonySigned", fn := fun _ => fun
  | [d1, d2, d3] => { results := [.lit (.bool true)], args := [d1, d2, d3] }
  | _ => none }
def ceremonySignedRow : OpenClaim := { program := "ytcbhpkjbiehcpaagreatdoor", sum := "7b35f8c006f9beb76190f5ed4e29fbfc4ab3b343807b417b2b474ea93c7e9103", func := "signatory/signatorylaw44.CeremonySigned", spec := "ceremonySigned", inPlace := ["slices.overlaps[signatory/api.Part]", "slices.overlaps[signatory/api.Pair]"], unfollowed := true, recurses := true, named := ["signatory/digest.start", "signatory/digest.numbers"], apart := false, laid := [("signatory/digest.start", laid_signatory_digest_start), ("signatory/digest.numbers", laid_signatory_digest_numbers)] }
def CeremonySignedSaid : Prop := ceremonySignedRow.holds Tryz.pinned (OpenSpec.ofChange ceremonySignedSpec)

/-- ITS FALSE NEIGHBOUR: 'it returns false'. Refute it at one input. -/
def ceremonySignedWrong : ChangeSpec := { name := "ceremonySigned", fn := fun _ => fun
  | [d1, d2, d3] => { results := [.lit (.bool false)], args := [d1, d2, d3] }
  | _ => none }
def CeremonySignedWrongFalsely : Prop := ceremonySignedRow.holds Tryz.pinned (OpenSpec.ofChange ceremonySignedWrong)

/-- 'signatorylaw44.CeremonyBlamed': WHATEVER THE INPUT: true; the input reads as it did. -/
def ceremonyBlamedSpec : ChangeSpec := { name := "ceremonyBlamed", fn := fun _ => fun
  | [d1, d2] => { results := [.lit (.bool true)], args := [d1, d2] }
  | _ => none }
def ceremonyBlamedRow : OpenClaim := { program := "ytcbhpkjbiehcpaagreatdoor", sum := "7b35f8c006f9beb76190f5ed4e29fbfc4ab3b343807b417b2b474ea93c7e9103", func := "signatory/signatorylaw44.CeremonyBlamed", spec := "ceremonyBlamed", inPlace := ["slices.overlaps[signatory/api.Part]", "slices.overlaps[signatory/api.Pair]"], unfollowed := true, recurses := true, named := ["signatory/digest.start", "signatory/digest.numbers"], apart := false, laid := [("signatory/digest.start", laid_signatory_digest_start), ("signatory/digest.numbers", laid_signatory_digest_numbers)] }
def CeremonyBlamedSaid : Prop := ceremonyBlamedRow.holds Tryz.pinned (OpenSpec.ofChange ceremonyBlamedSpec)

/-- ITS FALSE NEIGHBOUR: 'it returns false'. Refute it at one input. -/
def ceremonyBlamedWrong : ChangeSpec := { name := "ceremonyBlamed", fn := fun _ => fun
  | [d1, d2] => { results := [.lit (.bool false)], args := [d1, d2] }
  | _ => none }
def CeremonyBlamedWrongFalsely : Prop := ceremonyBlamedRow.holds Tryz.pinned (OpenSpec.ofChange ceremonyBlamedWrong)

/-- 'signatorylaw44.CeremonyTwice': WHATEVER THE INPUT: true; the input reads as it did. -/
def ceremonyTwiceSpec : ChangeSpec := { name := "ceremonyTwice", fn := fun _ => fun
  | [d1, d2, d3, d4, d5] => { results := [.lit (.bool true)], args := [d1, d2, d3, d4, d5] }
  | _ => none }
def ceremonyTwiceRow : OpenClaim := { program := "ytcbhpkjbiehcpaagreatdoor", sum := "7b35f8c006f9beb76190f5ed4e29fbfc4ab3b343807b417b2b474ea93c7e9103", func := "signatory/signatorylaw44.CeremonyTwice", spec := "ceremonyTwice", inPlace := ["slices.overlaps[signatory/api.Part]", "slices.overlaps[signatory/api.Pair]"], unfollowed := true, recurses := true, named := ["signatory/digest.start", "signatory/digest.numbers"], apart := false, laid := [("signatory/digest.start", laid_signatory_digest_start), ("signatory/digest.numbers", laid_signatory_digest_numbers)] }
def CeremonyTwiceSaid : Prop := ceremonyTwiceRow.holds Tryz.pinned (OpenSpec.ofChange ceremonyTwiceSpec)

/-- ITS FALSE NEIGHBOUR: 'it returns false'. Refute it at one input. -/
def ceremonyTwiceWrong : ChangeSpec := { name := "ceremonyTwice", fn := fun _ => fun
  | [d1, d2, d3, d4, d5] => { results := [.lit (.bool false)], args := [d1, d2, d3, d4, d5] }
  | _ => none }
def CeremonyTwiceWrongFalsely : Prop := ceremonyTwiceRow.holds Tryz.pinned (OpenSpec.ofChange ceremonyTwiceWrong)

/- THE SECOND FORM. 'bulk': how many values and letters a reading holds, each counted each time it is reached (what is shared counts as often as it is met; a slice's spare places count too). A statement '..UptoSaid' is the law's where the arguments, and the package variables that the reading takes, are together of bulk at most 1048576: NARROWER than '..Said'. Prove '..Said' where nothing that the law and all that it calls make is longer than what came in: it says more and counts as full. Else prove '..UptoSaid'. A law counts once. -/
mutual
def uptoBulk {H : Type} : DataW H → Nat
  | .lit (.string bytes) => bytes.length + 1
  | .lit _ => 1
  | .nil => 1
  | .ptr d => uptoBulk d + 1
  | .slice elems spare => uptoBulkAll elems + uptoBulkAll spare + 1
  | .agg parts => uptoBulkAll parts + 1
  | .iface _ d => uptoBulk d + 1
  | .map entries => uptoBulkEntries entries + 1
  | .held _ => 1
def uptoBulkAll {H : Type} : List (DataW H) → Nat
  | [] => 0
  | d :: r => uptoBulk d + uptoBulkAll r
def uptoBulkEntries {H : Type} : List (Lit × DataW H) → Nat
  | [] => 0
  | x :: r => uptoBulkEntry x + uptoBulkEntries r
def uptoBulkEntry {H : Type} : Lit × DataW H → Nat
  | (.string bytes, d) => bytes.length + uptoBulk d + 1
  | (_, d) => uptoBulk d + 1
 end
def uptoSmall : (H : Type) → List (DataW H) → Bool := fun _ ds => decide (uptoBulkAll ds ≤ 1048576)
def OpenSpec.upto (s : _root_.Go.ChangeSpec) : _root_.Go.OpenSpec := { _root_.Go.OpenSpec.ofChange s with cond := some uptoSmall }

/-- 'signatorylaw44.CeremonySpec', WHERE WHAT IT READS IS OF BULK AT MOST 1048576: true; the input reads as it did. -/
def ceremonySpecUptoRow : OpenClaim := { program := "ytcbhpkjbiehcpaagreatdoor", sum := "7b35f8c006f9beb76190f5ed4e29fbfc4ab3b343807b417b2b474ea93c7e9103", func := "signatory/signatorylaw44.CeremonySpec", spec := "ceremonySpec", inPlace := ["slices.overlaps[signatory/api.Part]", "slices.overlaps[signatory/api.Pair]"], unfollowed := true, recurses := true, named := ["signatory/digest.start", "signatory/digest.numbers"], apart := false, laid := [("signatory/digest.start", laid_signatory_digest_start), ("signatory/digest.numbers", laid_signatory_digest_numbers)], narrowed := true }
def CeremonySpecUptoSaid : Prop := ceremonySpecUptoRow.holds Tryz.pinned (OpenSpec.upto ceremonySpecSpec)

/-- 'signatorylaw44.CeremonyDoSpec', WHERE WHAT IT READS IS OF BULK AT MOST 1048576: true; the input reads as it did. -/
def ceremonyDoSpecUptoRow : OpenClaim := { program := "ytcbhpkjbiehcpaagreatdoor", sum := "7b35f8c006f9beb76190f5ed4e29fbfc4ab3b343807b417b2b474ea93c7e9103", func := "signatory/signatorylaw44.CeremonyDoSpec", spec := "ceremonyDoSpec", inPlace := ["slices.overlaps[signatory/api.Part]", "slices.overlaps[signatory/api.Pair]"], unfollowed := true, recurses := true, named := ["signatory/digest.start", "signatory/digest.numbers"], apart := false, laid := [("signatory/digest.start", laid_signatory_digest_start), ("signatory/digest.numbers", laid_signatory_digest_numbers)], narrowed := true }
def CeremonyDoSpecUptoSaid : Prop := ceremonyDoSpecUptoRow.holds Tryz.pinned (OpenSpec.upto ceremonyDoSpecSpec)

/-- 'signatorylaw44.CeremonySigned', WHERE WHAT IT READS IS OF BULK AT MOST 1048576: true; the input reads as it did. -/
def ceremonySignedUptoRow : OpenClaim := { program := "ytcbhpkjbiehcpaagreatdoor", sum := "7b35f8c006f9beb76190f5ed4e29fbfc4ab3b343807b417b2b474ea93c7e9103", func := "signatory/signatorylaw44.CeremonySigned", spec := "ceremonySigned", inPlace := ["slices.overlaps[signatory/api.Part]", "slices.overlaps[signatory/api.Pair]"], unfollowed := true, recurses := true, named := ["signatory/digest.start", "signatory/digest.numbers"], apart := false, laid := [("signatory/digest.start", laid_signatory_digest_start), ("signatory/digest.numbers", laid_signatory_digest_numbers)], narrowed := true }
def CeremonySignedUptoSaid : Prop := ceremonySignedUptoRow.holds Tryz.pinned (OpenSpec.upto ceremonySignedSpec)

/-- 'signatorylaw44.CeremonyBlamed', WHERE WHAT IT READS IS OF BULK AT MOST 1048576: true; the input reads as it did. -/
def ceremonyBlamedUptoRow : OpenClaim := { program := "ytcbhpkjbiehcpaagreatdoor", sum := "7b35f8c006f9beb76190f5ed4e29fbfc4ab3b343807b417b2b474ea93c7e9103", func := "signatory/signatorylaw44.CeremonyBlamed", spec := "ceremonyBlamed", inPlace := ["slices.overlaps[signatory/api.Part]", "slices.overlaps[signatory/api.Pair]"], unfollowed := true, recurses := true, named := ["signatory/digest.start", "signatory/digest.numbers"], apart := false, laid := [("signatory/digest.start", laid_signatory_digest_start), ("signatory/digest.numbers", laid_signatory_digest_numbers)], narrowed := true }
def CeremonyBlamedUptoSaid : Prop := ceremonyBlamedUptoRow.holds Tryz.pinned (OpenSpec.upto ceremonyBlamedSpec)

/-- 'signatorylaw44.CeremonyTwice', WHERE WHAT IT READS IS OF BULK AT MOST 1048576: true; the input reads as it did. -/
def ceremonyTwiceUptoRow : OpenClaim := { program := "ytcbhpkjbiehcpaagreatdoor", sum := "7b35f8c006f9beb76190f5ed4e29fbfc4ab3b343807b417b2b474ea93c7e9103", func := "signatory/signatorylaw44.CeremonyTwice", spec := "ceremonyTwice", inPlace := ["slices.overlaps[signatory/api.Part]", "slices.overlaps[signatory/api.Pair]"], unfollowed := true, recurses := true, named := ["signatory/digest.start", "signatory/digest.numbers"], apart := false, laid := [("signatory/digest.start", laid_signatory_digest_start), ("signatory/digest.numbers", laid_signatory_digest_numbers)], narrowed := true }
def CeremonyTwiceUptoSaid : Prop := ceremonyTwiceUptoRow.holds Tryz.pinned (OpenSpec.upto ceremonyTwiceSpec)

end Rows
end Go.Proofs.YtcbhpkjbiehcpaaGreatDoor
