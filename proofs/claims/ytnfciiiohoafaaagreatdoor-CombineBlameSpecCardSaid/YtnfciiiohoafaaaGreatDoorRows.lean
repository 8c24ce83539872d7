/-
  NARROWER THAN 'FOR EVERY INPUT', by the rows' own cells (each row's printed sentence says how): PartialSpec: laid · PartialMakeSpec: laid · PartialSigns: laid · PartialFits: laid · PartialPoint: laid · CombineSpec: laid · CombineBlameSpec: laid · CombineSigns: laid · CombineBlame: laid · CombineEvery: laid · CombineSum: laid · PartialRenewed: laid.
  DERIVED. THE GIVEN ROWS OF THIS SEAT. 12 by the template 'for every input the law returns true; each argument reads behind the call as it read before'; 0 by the template 'total and deterministic' (their statements: YtnfciiiohoafaaaGreatDoorTotals.lean).
  GIVEN WITH THE SEED: the statements are not yours to turn. If you find one false, say at which input.
  Laid BY PROGRAM, IN A SANDBOX (cutbox-rows.mjs): the forced cells as the released guide's own fill.sh prints them over the translation c4f3c1c6aef416cf… (all of the seat's roots in one cut). By AI agents, Wed Nov 11 2026. No macro, syntax, notation, axiom, sorry.
-/
import Derived.Test.YtnfciiiohoafaaaGreatDoorChecked
import GoSem.Claim
import GoSem.ClaimJoined
import GoSem.ClaimMapViews
import Derived.JoinedTies
import Derived.KernelRfl
namespace Go.Proofs.YtnfciiiohoafaaaGreatDoor
/- THE CELL 'sum', in the pinned program and in every row, IS THE sha256 OF THE DUMP (.gsa) THAT YtnfciiiohoafaaaGreatDoorProg.lean LOADS. Nothing in Lean hashes anything: it is a label: what it is worth is what the hold of that sum in a sandbox is worth. -/
noncomputable def Tryz.pinned : Pinned := { name := "ytnfciiiohoafaaagreatdoor", sum := "c4f3c1c6aef416cfd4b9b824d94e6062a17c31f1a6a93663c0882d3be38f5c27", checked := Tryz.checked }
namespace Rows
def none {H : Type} : Left H := { results := [], args := [] }

/- WHAT THE LISTED PACKAGE-LEVEL VARIABLES READ AS WHEN THE CALL BEGINS. Each datum BY PROGRAM (the guide's laid-datum.mjs) off the statement by which the dump's own 'gosem.cut.vars' lays the variable. In a bare row this is a premise. The card (YtnfciiiohoafaaaGreatDoorCards.lean) ties it to the program's text. -/
def laid_signatory_digest_start {H : Type} : DataW H := .agg [.lit (.int .u32 1779033703), .lit (.int .u32 3144134277), .lit (.int .u32 1013904242), .lit (.int .u32 2773480762), .lit (.int .u32 1359893119), .lit (.int .u32 2600822924), .lit (.int .u32 528734635), .lit (.int .u32 1541459225)]
def laid_signatory_digest_numbers {H : Type} : DataW H := .agg [.lit (.int .u32 1116352408), .lit (.int .u32 1899447441), .lit (.int .u32 3049323471), .lit (.int .u32 3921009573), .lit (.int .u32 961987163), .lit (.int .u32 1508970993), .lit (.int .u32 2453635748), .lit (.int .u32 2870763221), .lit (.int .u32 3624381080), .lit (.int .u32 310598401), .lit (.int .u32 607225278), .lit (.int .u32 1426881987), .lit (.int .u32 1925078388), .lit (.int .u32 2162078206), .lit (.int .u32 2614888103), .lit (.int .u32 3248222580), .lit (.int .u32 3835390401), .lit (.int .u32 4022224774), .lit (.int .u32 264347078), .lit (.int .u32 604807628), .lit (.int .u32 770255983), .lit (.int .u32 1249150122), .lit (.int .u32 1555081692), .lit (.int .u32 1996064986), .lit (.int .u32 2554220882), .lit (.int .u32 2821834349), .lit (.int .u32 2952996808), .lit (.int .u32 3210313671), .lit (.int .u32 3336571891), .lit (.int .u32 3584528711), .lit (.int .u32 113926993), .lit (.int .u32 338241895), .lit (.int .u32 666307205), .lit (.int .u32 773529912), .lit (.int .u32 1294757372), .lit (.int .u32 1396182291), .lit (.int .u32 1695183700), .lit (.int .u32 1986661051), .lit (.int .u32 2177026350), .lit (.int .u32 2456956037), .lit (.int .u32 2730485921), .lit (.int .u32 2820302411), .lit (.int .u32 3259730800), .lit (.int .u32 3345764771), .lit (.int .u32 3516065817), .lit (.int .u32 3600352804), .lit (.int .u32 4094571909), .lit (.int .u32 275423344), .lit (.int .u32 430227734), .lit (.int .u32 506948616), .lit (.int .u32 659060556), .lit (.int .u32 883997877), .lit (.int .u32 958139571), .lit (.int .u32 1322822218), .lit (.int .u32 1537002063), .lit (.int .u32 1747873779), .lit (.int .u32 1955562222), .lit (.int .u32 2024104815), .lit (.int .u32 2227730452), .lit (.int .u32 2361852424), .lit (.int .u32 2428436474), .lit (.int .u32 2756734187), .lit (.int .u32 3204031479), .lit (.int .u32 3329325298)]

/-- 'signatorylaw42.PartialSpec': WHATEVER THE INPUT: true; the input reads as it did. -/
def partialSpecSpec : ChangeSpec := { name := "partialSpec", fn := fun _ => fun
  | [d1, d2, d3] => { results := [.lit (.bool true)], args := [d1, d2, d3] }
  | _ => none }
def partialSpecRow : OpenClaim := { program := "ytnfciiiohoafaaagreatdoor", sum := "c4f3c1c6aef416cfd4b9b824d94e6062a17c31f1a6a93663c0882d3be38f5c27", func := "signatory/signatorylaw42.PartialSpec", spec := "partialSpec", unfollowed := true, recurses := true, named := ["signatory/digest.start", "signatory/digest.numbers"], apart := false, laid := [("signatory/digest.start", laid_signatory_digest_start), ("signatory/digest.numbers", laid_signatory_digest_numbers)] }
def PartialSpecSaid : Prop := partialSpecRow.holds Tryz.pinned (OpenSpec.ofChange partialSpecSpec)

/-- ITS FALSE NEIGHBOUR: 'it returns false'. Refute it at one input. -/
def partialSpecWrong : ChangeSpec := { name := "partialSpec", fn := fun _ => fun
  | [d1, d2, d3] => { results := [.lit (.bool false)], args := [d1, d2, d3] }
  | _ => none }
def PartialSpecWrongFalsely : Prop := partialSpecRow.holds Tryz.pinned (OpenSpec.ofChange partialSpecWrong)

/-- 'signatorylaw42.PartialMakeSpec': WHATEVER THE INPUT: true; the input reads as it did. -/
def partialMakeSpecSpec : ChangeSpec := { name := "partialMakeSpec", fn := fun _ => fun
  | [d1, d2, d3, d4, d5, d6, d7, d8] => { results := [.lit (.bool true)], args := [d1, d2, d3, d4, d5, d6, d7, d8] }
  | _ => none }
def partialMakeSpecRow : OpenClaim := { program := "ytnfciiiohoafaaagreatdoor", sum := "c4f3c1c6aef416cfd4b9b824d94e6062a17c31f1a6a93663c0882d3be38f5c27", func := "signatory/signatorylaw42.PartialMakeSpec", spec := "partialMakeSpec", unfollowed := true, recurses := true, named := ["signatory/digest.start", "signatory/digest.numbers"], apart := false, laid := [("signatory/digest.start", laid_signatory_digest_start), ("signatory/digest.numbers", laid_signatory_digest_numbers)] }
def PartialMakeSpecSaid : Prop := partialMakeSpecRow.holds Tryz.pinned (OpenSpec.ofChange partialMakeSpecSpec)

/-- ITS FALSE NEIGHBOUR: 'it returns false'. Refute it at one input. -/
def partialMakeSpecWrong : ChangeSpec := { name := "partialMakeSpec", fn := fun _ => fun
  | [d1, d2, d3, d4, d5, d6, d7, d8] => { results := [.lit (.bool false)], args := [d1, d2, d3, d4, d5, d6, d7, d8] }
  | _ => none }
def PartialMakeSpecWrongFalsely : Prop := partialMakeSpecRow.holds Tryz.pinned (OpenSpec.ofChange partialMakeSpecWrong)

/-- 'signatorylaw42.PartialSigns': WHATEVER THE INPUT: true; the input reads as it did. -/
def partialSignsSpec : ChangeSpec := { name := "partialSigns", fn := fun _ => fun
  | [d1, d2, d3, d4, d5, d6] => { results := [.lit (.bool true)], args := [d1, d2, d3, d4, d5, d6] }
  | _ => none }
def partialSignsRow : OpenClaim := { program := "ytnfciiiohoafaaagreatdoor", sum := "c4f3c1c6aef416cfd4b9b824d94e6062a17c31f1a6a93663c0882d3be38f5c27", func := "signatory/signatorylaw42.PartialSigns", spec := "partialSigns", unfollowed := true, recurses := true, named := ["signatory/digest.start", "signatory/digest.numbers"], apart := false, laid := [("signatory/digest.start", laid_signatory_digest_start), ("signatory/digest.numbers", laid_signatory_digest_numbers)] }
def PartialSignsSaid : Prop := partialSignsRow.holds Tryz.pinned (OpenSpec.ofChange partialSignsSpec)

/-- ITS FALSE NEIGHBOUR: 'it returns false'. Refute it at one input. -/
def partialSignsWrong : ChangeSpec := { name := "partialSigns", fn := fun _ => fun
  | [d1, d2, d3, d4, d5, d6] => { results := [.lit (.bool false)], args := [d1, d2, d3, d4, d5, d6] }
  | _ => none }
def PartialSignsWrongFalsely : Prop := partialSignsRow.holds Tryz.pinned (OpenSpec.ofChange partialSignsWrong)

/-- 'signatorylaw42.PartialFits': WHATEVER THE INPUT: true; the input reads as it did. -/
def partialFitsSpec : ChangeSpec := { name := "partialFits", fn := fun _ => fun
  | [d1, d2, d3, d4, d5, d6, d7] => { results := [.lit (.bool true)], args := [d1, d2, d3, d4, d5, d6, d7] }
  | _ => none }
def partialFitsRow : OpenClaim := { program := "ytnfciiiohoafaaagreatdoor", sum := "c4f3c1c6aef416cfd4b9b824d94e6062a17c31f1a6a93663c0882d3be38f5c27", func := "signatory/signatorylaw42.PartialFits", spec := "partialFits", unfollowed := true, recurses := true, named := ["signatory/digest.start", "signatory/digest.numbers"], apart := false, laid := [("signatory/digest.start", laid_signatory_digest_start), ("signatory/digest.numbers", laid_signatory_digest_numbers)] }
def PartialFitsSaid : Prop := partialFitsRow.holds Tryz.pinned (OpenSpec.ofChange partialFitsSpec)

/-- ITS FALSE NEIGHBOUR: 'it returns false'. Refute it at one input. -/
def partialFitsWrong : ChangeSpec := { name := "partialFits", fn := fun _ => fun
  | [d1, d2, d3, d4, d5, d6, d7] => { results := [.lit (.bool false)], args := [d1, d2, d3, d4, d5, d6, d7] }
  | _ => none }
def PartialFitsWrongFalsely : Prop := partialFitsRow.holds Tryz.pinned (OpenSpec.ofChange partialFitsWrong)

/-- 'signatorylaw42.PartialPoint': WHATEVER THE INPUT: true; the input reads as it did. -/
def partialPointSpec : ChangeSpec := { name := "partialPoint", fn := fun _ => fun
  | [d1, d2, d3, d4, d5, d6] => { results := [.lit (.bool true)], args := [d1, d2, d3, d4, d5, d6] }
  | _ => none }
def partialPointRow : OpenClaim := { program := "ytnfciiiohoafaaagreatdoor", sum := "c4f3c1c6aef416cfd4b9b824d94e6062a17c31f1a6a93663c0882d3be38f5c27", func := "signatory/signatorylaw42.PartialPoint", spec := "partialPoint", unfollowed := true, recurses := true, named := ["signatory/digest.start", "signatory/digest.numbers"], apart := false, laid := [("signatory/digest.start", laid_signatory_digest_start), ("signatory/digest.numbers", laid_signatory_digest_numbers)] }
def PartialPointSaid : Prop := partialPointRow.holds Tryz.pinned (OpenSpec.ofChange partialPointSpec)

/-- ITS FALSE NEIGHBOUR: 'it returns false'. Refute it at one input. -/
def partialPointWrong : ChangeSpec := { name := "partialPoint", fn := fun _ => fun
  | [d1, d2, d3, d4, d5, d6] => { results := [.lit (.bool false)], args := [d1, d2, d3, d4, d5, d6] }
  | _ => none }
def PartialPointWrongFalsely : Prop := partialPointRow.holds Tryz.pinned (OpenSpec.ofChange partialPointWrong)

/-- 'signatorylaw43.CombineSpec': WHATEVER THE INPUT: true; the input reads as it did. -/
def combineSpecSpec : ChangeSpec := { name := "combineSpec", fn := fun _ => fun
  | [d1, d2, d3, d4] => { results := [.lit (.bool true)], args := [d1, d2, d3, d4] }
  | _ => none }
def combineSpecRow : OpenClaim := { program := "ytnfciiiohoafaaagreatdoor", sum := "c4f3c1c6aef416cfd4b9b824d94e6062a17c31f1a6a93663c0882d3be38f5c27", func := "signatory/signatorylaw43.CombineSpec", spec := "combineSpec", unfollowed := true, recurses := true, named := ["signatory/digest.start", "signatory/digest.numbers"], apart := false, laid := [("signatory/digest.start", laid_signatory_digest_start), ("signatory/digest.numbers", laid_signatory_digest_numbers)] }
def CombineSpecSaid : Prop := combineSpecRow.holds Tryz.pinned (OpenSpec.ofChange combineSpecSpec)

/-- ITS FALSE NEIGHBOUR: 'it returns false'. Refute it at one input. -/
def combineSpecWrong : ChangeSpec := { name := "combineSpec", fn := fun _ => fun
  | [d1, d2, d3, d4] => { results := [.lit (.bool false)], args := [d1, d2, d3, d4] }
  | _ => none }
def CombineSpecWrongFalsely : Prop := combineSpecRow.holds Tryz.pinned (OpenSpec.ofChange combineSpecWrong)

/-- 'signatorylaw43.CombineBlameSpec': WHATEVER THE INPUT: true; the input reads as it did. -/
def combineBlameSpecSpec : ChangeSpec := { name := "combineBlameSpec", fn := fun _ => fun
  | [d1, d2, d3, d4] => { results := [.lit (.bool true)], args := [d1, d2, d3, d4] }
  | _ => none }
def combineBlameSpecRow : OpenClaim := { program := "ytnfciiiohoafaaagreatdoor", sum := "c4f3c1c6aef416cfd4b9b824d94e6062a17c31f1a6a93663c0882d3be38f5c27", func := "signatory/signatorylaw43.CombineBlameSpec", spec := "combineBlameSpec", unfollowed := true, recurses := true, named := ["signatory/digest.start", "signatory/digest.numbers"], apart := false, laid := [("signatory/digest.start", laid_signatory_digest_start), ("signatory/digest.numbers", laid_signatory_digest_numbers)] }
def CombineBlameSpecSaid : Prop := combineBlameSpecRow.holds Tryz.pinned (OpenSpec.ofChange combineBlameSpecSpec)

/-- ITS FALSE NEIGHBOUR: 'it returns false'. Refute it at one input. -/
def combineBlameSpecWrong : ChangeSpec := { name := "combineBlameSpec", fn := fun _ => fun
  | [d1, d2, d3, d4] => { results := [.lit (.bool false)], args := [d1, d2, d3, d4] }
  | _ => none }
def CombineBlameSpecWrongFalsely : Prop := combineBlameSpecRow.holds Tryz.pinned (OpenSpec.ofChange combineBlameSpecWrong)

/-- 'signatorylaw43.CombineSigns': WHATEVER THE INPUT: true; the input reads as it did. -/
def combineSignsSpec : ChangeSpec := { name := "combineSigns", fn := fun _ => fun
  | [d1, d2, d3, d4, d5, d6] => { results := [.lit (.bool true)], args := [d1, d2, d3, d4, d5, d6] }
  | _ => none }
def combineSignsRow : OpenClaim := { program := "ytnfciiiohoafaaagreatdoor", sum := "c4f3c1c6aef416cfd4b9b824d94e6062a17c31f1a6a93663c0882d3be38f5c27", func := "signatory/signatorylaw43.CombineSigns", spec := "combineSigns", unfollowed := true, recurses := true, named := ["signatory/digest.start", "signatory/digest.numbers"], apart := false, laid := [("signatory/digest.start", laid_signatory_digest_start), ("signatory/digest.numbers", laid_signatory_digest_numbers)] }
def CombineSignsSaid : Prop := combineSignsRow.holds Tryz.pinned (OpenSpec.ofChange combineSignsSpec)

/-- ITS FALSE NEIGHBOUR: 'it returns false'. Refute it at one input. -/
def combineSignsWrong : ChangeSpec := { name := "combineSigns", fn := fun _ => fun
  | [d1, d2, d3, d4, d5, d6] => { results := [.lit (.bool false)], args := [d1, d2, d3, d4, d5, d6] }
  | _ => none }
def CombineSignsWrongFalsely : Prop := combineSignsRow.holds Tryz.pinned (OpenSpec.ofChange combineSignsWrong)

/-- 'signatorylaw43.CombineBlame': WHATEVER THE INPUT: true; the input reads as it did. -/
def combineBlameSpec : ChangeSpec := { name := "combineBlame", fn := fun _ => fun
  | [d1, d2, d3, d4, d5, d6, d7, d8, d9] => { results := [.lit (.bool true)], args := [d1, d2, d3, d4, d5, d6, d7, d8, d9] }
  | _ => none }
def combineBlameRow : OpenClaim := { program := "ytnfciiiohoafaaagreatdoor", sum := "c4f3c1c6aef416cfd4b9b824d94e6062a17c31f1a6a93663c0882d3be38f5c27", func := "signatory/signatorylaw43.CombineBlame", spec := "combineBlame", unfollowed := true, recurses := true, named := ["signatory/digest.start", "signatory/digest.numbers"], apart := false, laid := [("signatory/digest.start", laid_signatory_digest_start), ("signatory/digest.numbers", laid_signatory_digest_numbers)] }
def CombineBlameSaid : Prop := combineBlameRow.holds Tryz.pinned (OpenSpec.ofChange combineBlameSpec)

/-- ITS FALSE NEIGHBOUR: 'it returns false'. Refute it at one input. -/
def combineBlameWrong : ChangeSpec := { name := "combineBlame", fn := fun _ => fun
  | [d1, d2, d3, d4, d5, d6, d7, d8, d9] => { results := [.lit (.bool false)], args := [d1, d2, d3, d4, d5, d6, d7, d8, d9] }
  | _ => none }
def CombineBlameWrongFalsely : Prop := combineBlameRow.holds Tryz.pinned (OpenSpec.ofChange combineBlameWrong)

/-- 'signatorylaw43.CombineEvery': WHATEVER THE INPUT: true; the input reads as it did. -/
def combineEverySpec : ChangeSpec := { name := "combineEvery", fn := fun _ => fun
  | [d1, d2, d3, d4, d5, d6, d7, d8] => { results := [.lit (.bool true)], args := [d1, d2, d3, d4, d5, d6, d7, d8] }
  | _ => none }
def combineEveryRow : OpenClaim := { program := "ytnfciiiohoafaaagreatdoor", sum := "c4f3c1c6aef416cfd4b9b824d94e6062a17c31f1a6a93663c0882d3be38f5c27", func := "signatory/signatorylaw43.CombineEvery", spec := "combineEvery", unfollowed := true, recurses := true, named := ["signatory/digest.start", "signatory/digest.numbers"], apart := false, laid := [("signatory/digest.start", laid_signatory_digest_start), ("signatory/digest.numbers", laid_signatory_digest_numbers)] }
def CombineEverySaid : Prop := combineEveryRow.holds Tryz.pinned (OpenSpec.ofChange combineEverySpec)

/-- ITS FALSE NEIGHBOUR: 'it returns false'. Refute it at one input. -/
def combineEveryWrong : ChangeSpec := { name := "combineEvery", fn := fun _ => fun
  | [d1, d2, d3, d4, d5, d6, d7, d8] => { results := [.lit (.bool false)], args := [d1, d2, d3, d4, d5, d6, d7, d8] }
  | _ => none }
def CombineEveryWrongFalsely : Prop := combineEveryRow.holds Tryz.pinned (OpenSpec.ofChange combineEveryWrong)

/-- 'signatorylaw43.CombineSum': WHATEVER THE INPUT: true; the input reads as it did. -/
def combineSumSpec : ChangeSpec := { name := "combineSum", fn := fun _ => fun
  | [d1, d2, d3, d4, d5, d6, d7] => { results := [.lit (.bool true)], args := [d1, d2, d3, d4, d5, d6, d7] }
  | _ => none }
def combineSumRow : OpenClaim := { program := "ytnfciiiohoafaaagreatdoor", sum := "c4f3c1c6aef416cfd4b9b824d94e6062a17c31f1a6a93663c0882d3be38f5c27", func := "signatory/signatorylaw43.CombineSum", spec := "combineSum", unfollowed := true, recurses := true, named := ["signatory/digest.start", "signatory/digest.numbers"], apart := false, laid := [("signatory/digest.start", laid_signatory_digest_start), ("signatory/digest.numbers", laid_signatory_digest_numbers)] }
def CombineSumSaid : Prop := combineSumRow.holds Tryz.pinned (OpenSpec.ofChange combineSumSpec)

/-- ITS FALSE NEIGHBOUR: 'it returns false'. Refute it at one input. -/
def combineSumWrong : ChangeSpec := { name := "combineSum", fn := fun _ => fun
  | [d1, d2, d3, d4, d5, d6, d7] => { results := [.lit (.bool false)], args := [d1, d2, d3, d4, d5, d6, d7] }
  | _ => none }
def CombineSumWrongFalsely : Prop := combineSumRow.holds Tryz.pinned (OpenSpec.ofChange combineSumWrong)

/-- 'signatorylaw42.PartialRenewed': WHATEVER THE INPUT: true; the input reads as it did. -/
def partialRenewedSpec : ChangeSpec := { name := "partialRenewed", fn := fun _ => fun
  | [d1, d2, d3, d4, d5, d6, d7] => { results := [.lit (.bool true)], args := [d1, d2, d3, d4, d5, d6, d7] }
  | _ => none }
def partialRenewedRow : OpenClaim := { program := "ytnfciiiohoafaaagreatdoor", sum := "c4f3c1c6aef416cfd4b9b824d94e6062a17c31f1a6a93663c0882d3be38f5c27", func := "signatory/signatorylaw42.PartialRenewed", spec := "partialRenewed", unfollowed := true, recurses := true, named := ["signatory/digest.start", "signatory/digest.numbers"], apart := false, laid := [("signatory/digest.start", laid_signatory_digest_start), ("signatory/digest.numbers", laid_signatory_digest_numbers)] }
def PartialRenewedSaid : Prop := partialRenewedRow.holds Tryz.pinned (OpenSpec.ofChange partialRenewedSpec)

/-- ITS FALSE NEIGHBOUR: 'it returns false'. Refute it at one input. -/
def partialRenewedWrong : ChangeSpec := { name := "partialRenewed", fn := fun _ => fun
  | [d1, d2, d3, d4, d5, d6, d7] => { results := [.lit (.bool false)], args := [d1, d2, d3, d4, d5, d6, d7] }
  | _ => none }
def PartialRenewedWrongFalsely : Prop := partialRenewedRow.holds Tryz.pinned (OpenSpec.ofChange partialRenewedWrong)

/- THE SECOND FORM. 'bulk': how many values and letters a reading holds, each counted each time it is reached (what is shared counts as often as it is met; a slice's spare places count too). A statement '..UptoSaid' is the law's where the arguments, and the package variables that the reading takes, are together of bulk at most 1048576: NARROWER than '..Said'. Prove '..Said' where nothing that the law and all that it calls make is longer than what came in: it says more and counts as full. Else prove '..UptoSaid'. A law counts once. -/
mutual
def uptoBulk {H : Type} : DataW H → Nat
  | .lit (.string bytes) => bytes.length + 1
  | .lit _ => 1
  | .nil => 1
  | .ptr d => uptoBulk d + 1
  | .slice elems spare => uptoBulkAll elems + uptoBulkAll spare + 1
  | .agg parts => uptoBulkAll parts + 1
  | .iface _ d => uptoBulk d + 1
  | .map entries => uptoBulkEntries entries + 1
  | .held _ => 1
def uptoBulkAll {H : Type} : List (DataW H) → Nat
  | [] => 0
  | d :: r => uptoBulk d + uptoBulkAll r
def uptoBulkEntries {H : Type} : List (Lit × DataW H) → Nat
  | [] => 0
  | x :: r => uptoBulkEntry x + uptoBulkEntries r
def uptoBulkEntry {H : Type} : Lit × DataW H → Nat
  | (.string bytes, d) => bytes.length + uptoBulk d + 1
  | (_, d) => uptoBulk d + 1
 end
def uptoSmall : (H : Type) → List (DataW H) → Bool := fun _ ds => decide (uptoBulkAll ds ≤ 1048576)
def OpenSpec.upto (s : _root_.Go.ChangeSpec) : _root_.Go.OpenSpec := { _root_.Go.OpenSpec.ofChange s with cond := some uptoSmall }

/-- 'signatorylaw42.PartialSpec', WHERE WHAT IT READS IS OF BULK AT MOST 1048576: true; the input reads as it did. -/
def partialSpecUptoRow : OpenClaim := { program := "ytnfciiiohoafaaagreatdoor", sum := "c4f3c1c6aef416cfd4b9b824d94e6062a17c31f1a6a93663c0882d3be38f5c27", func := "signatory/signatorylaw42.PartialSpec", spec := "partialSpec", unfollowed := true, recurses := true, named := ["signatory/digest.start", "signatory/digest.numbers"], apart := false, laid := [("signatory/digest.start", laid_signatory_digest_start), ("signatory/digest.numbers", laid_signatory_digest_numbers)], narrowed := true }
def PartialSpecUptoSaid : Prop := partialSpecUptoRow.holds Tryz.pinned (OpenSpec.upto partialSpecSpec)

/-- 'signatorylaw42.PartialMakeSpec', WHERE WHAT IT READS IS OF BULK AT MOST 1048576: true; the input reads as it did. -/
def partialMakeSpecUptoRow : OpenClaim := { program := "ytnfciiiohoafaaagreatdoor", sum := "c4f3c1c6aef416cfd4b9b824d94e6062a17c31f1a6a93663c0882d3be38f5c27", func := "signatory/signatorylaw42.PartialMakeSpec", spec := "partialMakeSpec", unfollowed := true, recurses := true, named := ["signatory/digest.start", "signatory/digest.numbers"], apart := false, laid := [("signatory/digest.start", laid_signatory_digest_start), ("signatory/digest.numbers", laid_signatory_digest_numbers)], narrowed := true }
def PartialMakeSpecUptoSaid : Prop := partialMakeSpecUptoRow.holds Tryz.pinned (OpenSpec.upto partialMakeSpecSpec)

/-- 'signatorylaw42.PartialSigns', WHERE WHAT IT READS IS OF BULK AT MOST 1048576: true; the input reads as it did. -/
def partialSignsUptoRow : OpenClaim := { program := "ytnfciiiohoafaaagreatdoor", sum := "c4f3c1c6aef416cfd4b9b824d94e6062a17c31f1a6a93663c0882d3be38f5c27", func := "signatory/signatorylaw42.PartialSigns", spec := "partialSigns", unfollowed := true, recurses := true, named := ["signatory/digest.start", "signatory/digest.numbers"], apart := false, laid := [("signatory/digest.start", laid_signatory_digest_start), ("signatory/digest.numbers", laid_signatory_digest_numbers)], narrowed := true }
def PartialSignsUptoSaid : Prop := partialSignsUptoRow.holds Tryz.pinned (OpenSpec.upto partialSignsSpec)

/-- 'signatorylaw42.PartialFits', WHERE WHAT IT READS IS OF BULK AT MOST 1048576: true; the input reads as it did. -/
def partialFitsUptoRow : OpenClaim := { program := "ytnfciiiohoafaaagreatdoor", sum := "c4f3c1c6aef416cfd4b9b824d94e6062a17c31f1a6a93663c0882d3be38f5c27", func := "signatory/signatorylaw42.PartialFits", spec := "partialFits", unfollowed := true, recurses := true, named := ["signatory/digest.start", "signatory/digest.numbers"], apart := false, laid := [("signatory/digest.start", laid_signatory_digest_start), ("signatory/digest.numbers", laid_signatory_digest_numbers)], narrowed := true }
def PartialFitsUptoSaid : Prop := partialFitsUptoRow.holds Tryz.pinned (OpenSpec.upto partialFitsSpec)

/-- 'signatorylaw42.PartialPoint', WHERE WHAT IT READS IS OF BULK AT MOST 1048576: true; the input reads as it did. -/
def partialPointUptoRow : OpenClaim := { program := "ytnfciiiohoafaaagreatdoor", sum := "c4f3c1c6aef416cfd4b9b824d94e6062a17c31f1a6a93663c0882d3be38f5c27", func := "signatory/signatorylaw42.PartialPoint", spec := "partialPoint", unfollowed := true, recurses := true, named := ["signatory/digest.start", "signatory/digest.numbers"], apart := false, laid := [("signatory/digest.start", laid_signatory_digest_start), ("signatory/digest.numbers", laid_signatory_digest_numbers)], narrowed := true }
def PartialPointUptoSaid : Prop := partialPointUptoRow.holds Tryz.pinned (OpenSpec.upto partialPointSpec)

/-- 'signatorylaw43.CombineSpec', WHERE WHAT IT READS IS OF BULK AT MOST 1048576: true; the input reads as it did. -/
def combineSpecUptoRow : OpenClaim := { program := "ytnfciiiohoafaaagreatdoor", sum := "c4f3c1c6aef416cfd4b9b824d94e6062a17c31f1a6a93663c0882d3be38f5c27", func := "signatory/signatorylaw43.CombineSpec", spec := "combineSpec", unfollowed := true, recurses := true, named := ["signatory/digest.start", "signatory/digest.numbers"], apart := false, laid := [("signatory/digest.start", laid_signatory_digest_start), ("signatory/digest.numbers", laid_signatory_digest_numbers)], narrowed := true }
def CombineSpecUptoSaid : Prop := combineSpecUptoRow.holds Tryz.pinned (OpenSpec.upto combineSpecSpec)

/-- 'signatorylaw43.CombineBlameSpec', WHERE WHAT IT READS IS OF BULK AT MOST 1048576: true; the input reads as it did. -/
def combineBlameSpecUptoRow : OpenClaim := { program := "ytnfciiiohoafaaagreatdoor", sum := "c4f3c1c6aef416cfd4b9b824d94e6062a17c31f1a6a93663c0882d3be38f5c27", func := "signatory/signatorylaw43.CombineBlameSpec", spec := "combineBlameSpec", unfollowed := true, recurses := true, named := ["signatory/digest.start", "signatory/digest.numbers"], apart := false, laid := [("signatory/digest.start", laid_signatory_digest_start), ("signatory/digest.numbers", laid_signatory_digest_numbers)], narrowed := true }
def CombineBlameSpecUptoSaid : Prop := combineBlameSpecUptoRow.holds Tryz.pinned (OpenSpec.upto combineBlameSpecSpec)

/-- 'signatorylaw43.CombineSigns', WHERE WHAT IT READS IS OF BULK AT MOST 1048576: true; the input reads as it did. -/
def combineSignsUptoRow : OpenClaim := { program := "ytnfciiiohoafaaagreatdoor", sum := "c4f3c1c6aef416cfd4b9b824d94e6062a17c31f1a6a93663c0882d3be38f5c27", func := "signatory/signatorylaw43.CombineSigns", spec := "combineSigns", unfollowed := true, recurses := true, named := ["signatory/digest.start", "signatory/digest.numbers"], apart := false, laid := [("signatory/digest.start", laid_signatory_digest_start), ("signatory/digest.numbers", laid_signatory_digest_numbers)], narrowed := true }
def CombineSignsUptoSaid : Prop := combineSignsUptoRow.holds Tryz.pinned (OpenSpec.upto combineSignsSpec)

/-- 'signatorylaw43.CombineBlame', WHERE WHAT IT READS IS OF BULK AT MOST 1048576: true; the input reads as it did. -/
def combineBlameUptoRow : OpenClaim := { program := "ytnfciiiohoafaaagreatdoor", sum := "c4f3c1c6aef416cfd4b9b824d94e6062a17c31f1a6a93663c0882d3be38f5c27", func := "signatory/signatorylaw43.CombineBlame", spec := "combineBlame", unfollowed := true, recurses := true, named := ["signatory/digest.start", "signatory/digest.numbers"], apart := false, laid := [("signatory/digest.start", laid_signatory_digest_start), ("signatory/digest.numbers", laid_signatory_digest_numbers)], narrowed := true }
def CombineBlameUptoSaid : Prop := combineBlameUptoRow.holds Tryz.pinned (OpenSpec.upto combineBlameSpec)

/-- 'signatorylaw43.CombineEvery', WHERE WHAT IT READS IS OF BULK AT MOST 1048576: true; the input reads as it did. -/
def combineEveryUptoRow : OpenClaim := { program := "ytnfciiiohoafaaagreatdoor", sum := "c4f3c1c6aef416cfd4b9b824d94e6062a17c31f1a6a93663c0882d3be38f5c27", func := "signatory/signatorylaw43.CombineEvery", spec := "combineEvery", unfollowed := true, recurses := true, named := ["signatory/digest.start", "signatory/digest.numbers"], apart := false, laid := [("signatory/digest.start", laid_signatory_digest_start), ("signatory/digest.numbers", laid_signatory_digest_numbers)], narrowed := true }
def CombineEveryUptoSaid : Prop := combineEveryUptoRow.holds Tryz.pinned (OpenSpec.upto combineEverySpec)

/-- 'signatorylaw43.CombineSum', WHERE WHAT IT READS IS OF BULK AT MOST 1048576: true; the input reads as it did. -/
def combineSumUptoRow : OpenClaim := { program := "ytnfciiiohoafaaagreatdoor", sum := "c4f3c1c6aef416cfd4b9b824d94e6062a17c31f1a6a93663c0882d3be38f5c27", func := "signatory/signatorylaw43.CombineSum", spec := "combineSum", unfollowed := true, recurses := true, named := ["signatory/digest.start", "signatory/digest.numbers"], apart := false, laid := [("signatory/digest.start", laid_signatory_digest_start), ("signatory/digest.numbers", laid_signatory_digest_numbers)], narrowed := true }
def CombineSumUptoSaid : Prop := combineSumUptoRow.holds Tryz.pinned (OpenSpec.upto combineSumSpec)

/-- 'signatorylaw42.PartialRenewed', WHERE WHAT IT READS IS OF BULK AT MOST 1048576: true; the input reads as it did. -/
def partialRenewedUptoRow : OpenClaim := { program := "ytnfciiiohoafaaagreatdoor", sum := "c4f3c1c6aef416cfd4b9b824d94e6062a17c31f1a6a93663c0882d3be38f5c27", func := "signatory/signatorylaw42.PartialRenewed", spec := "partialRenewed", unfollowed := true, recurses := true, named := ["signatory/digest.start", "signatory/digest.numbers"], apart := false, laid := [("signatory/digest.start", laid_signatory_digest_start), ("signatory/digest.numbers", laid_signatory_digest_numbers)], narrowed := true }
def PartialRenewedUptoSaid : Prop := partialRenewedUptoRow.holds Tryz.pinned (OpenSpec.upto partialRenewedSpec)

end Rows
end Go.Proofs.YtnfciiiohoafaaaGreatDoor
