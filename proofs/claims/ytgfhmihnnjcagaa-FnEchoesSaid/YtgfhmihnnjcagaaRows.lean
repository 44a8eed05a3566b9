/-
  No cell of these rows narrows 'for every input' (looked for: loops, veiled, ifaces, maps, wideKeys, modest, calm, conditions, laid).
  DERIVED. THE GIVEN ROWS OF THIS SEAT. 19 by the template 'for every input the law returns true; each argument reads behind the call as it read before'; 0 by the template 'total and deterministic' (their statements: YtgfhmihnnjcagaaTotals.lean).
  GIVEN WITH THE SEED: the statements are not yours to turn. If you find one false, say at which input.
  Laid BY PROGRAM, IN A SANDBOX (cutbox-rows.mjs): the forced cells as the released guide's own fill.sh prints them over the translation 88a79f4d2052a85b… (all of the seat's roots in one cut). By AI agents, Wed Nov 11 2026. No macro, syntax, notation, axiom, sorry.
-/
import Derived.Test.YtgfhmihnnjcagaaChecked
import GoSem.Claim
import GoSem.ClaimJoined
import GoSem.ClaimMapViews
import Derived.JoinedTies
import Derived.KernelRfl
namespace Go.Proofs.Ytgfhmihnnjcagaa
/- THE CELL 'sum', in the pinned program and in every row, IS THE sha256 OF THE DUMP (.gsa) THAT YtgfhmihnnjcagaaProg.lean LOADS. Nothing in Lean hashes anything: it is a label: what it is worth is what the hold of that sum in a sandbox is worth. -/
noncomputable def Try.pinned : Pinned := { name := "ytgfhmihnnjcagaa", sum := "88a79f4d2052a85bbb1d7b0414094b2d0e957d4c4ef0471889329eb6883e82f5", checked := Try.checked }
namespace Rows
def none {H : Type} : Left H := { results := [], args := [] }

/-- 'laws.FnExactPeaksOver': WHATEVER THE INPUT: true; the input reads as it did. -/
def fnExactPeaksOverSpec : ChangeSpec := { name := "fnExactPeaksOver", fn := fun _ => fun
  | [d1, d2, d3] => { results := [.lit (.bool true)], args := [d1, d2, d3] }
  | _ => none }
def fnExactPeaksOverRow : OpenClaim := { program := "ytgfhmihnnjcagaa", sum := "88a79f4d2052a85bbb1d7b0414094b2d0e957d4c4ef0471889329eb6883e82f5", func := "loop.example/g00915/laws.FnExactPeaksOver", spec := "fnExactPeaksOver", recurses := true, apart := false }
def FnExactPeaksOverSaid : Prop := fnExactPeaksOverRow.holds Try.pinned (OpenSpec.ofChange fnExactPeaksOverSpec)

/-- ITS FALSE NEIGHBOUR: 'it returns false'. Refute it at one input. -/
def fnExactPeaksOverWrong : ChangeSpec := { name := "fnExactPeaksOver", fn := fun _ => fun
  | [d1, d2, d3] => { results := [.lit (.bool false)], args := [d1, d2, d3] }
  | _ => none }
def FnExactPeaksOverWrongFalsely : Prop := fnExactPeaksOverRow.holds Try.pinned (OpenSpec.ofChange fnExactPeaksOverWrong)

/-- 'laws.FnExactWeightOf': WHATEVER THE INPUT: true; the input reads as it did. -/
def fnExactWeightOfSpec : ChangeSpec := { name := "fnExactWeightOf", fn := fun _ => fun
  | [d] => { results := [.lit (.bool true)], args := [d] }
  | _ => none }
def fnExactWeightOfRow : OpenClaim := { program := "ytgfhmihnnjcagaa", sum := "88a79f4d2052a85bbb1d7b0414094b2d0e957d4c4ef0471889329eb6883e82f5", func := "loop.example/g00915/laws.FnExactWeightOf", spec := "fnExactWeightOf", apart := false }
def FnExactWeightOfSaid : Prop := fnExactWeightOfRow.holds Try.pinned (OpenSpec.ofChange fnExactWeightOfSpec)

/-- ITS FALSE NEIGHBOUR: 'it returns false'. Refute it at one input. -/
def fnExactWeightOfWrong : ChangeSpec := { name := "fnExactWeightOf", fn := fun _ => fun
  | [d] => { results := [.lit (.bool false)], args := [d] }
  | _ => none }
def FnExactWeightOfWrongFalsely : Prop := fnExactWeightOfRow.holds Try.pinned (OpenSpec.ofChange fnExactWeightOfWrong)

/-- 'laws.FnExactPeakOf': WHATEVER THE INPUT: true; the input reads as it did. -/
def fnExactPeakOfSpec : ChangeSpec := { name := "fnExactPeakOf", fn := fun _ => fun
  | [d] => { results := [.lit (.bool true)], args := [d] }
  | _ => none }
def fnExactPeakOfRow : OpenClaim := { program := "ytgfhmihnnjcagaa", sum := "88a79f4d2052a85bbb1d7b0414094b2d0e957d4c4ef0471889329eb6883e82f5", func := "loop.example/g00915/laws.FnExactPeakOf", spec := "fnExactPeakOf", apart := false }
def FnExactPeakOfSaid : Prop := fnExactPeakOfRow.holds Try.pinned (OpenSpec.ofChange fnExactPeakOfSpec)

/-- ITS FALSE NEIGHBOUR: 'it returns false'. Refute it at one input. -/
def fnExactPeakOfWrong : ChangeSpec := { name := "fnExactPeakOf", fn := fun _ => fun
  | [d] => { results := [.lit (.bool false)], args := [d] }
  | _ => none }
def FnExactPeakOfWrongFalsely : Prop := fnExactPeakOfRow.holds Try.pinned (OpenSpec.ofChange fnExactPeakOfWrong)

/-- 'laws.FnPeaks': WHATEVER THE INPUT: true; the input reads as it did. -/
def fnPeaksSpec : ChangeSpec := { name := "fnPeaks", fn := fun _ => fun
  | [d] => { results := [.lit (.bool true)], args := [d] }
  | _ => none }
def fnPeaksRow : OpenClaim := { program := "ytgfhmihnnjcagaa", sum := "88a79f4d2052a85bbb1d7b0414094b2d0e957d4c4ef0471889329eb6883e82f5", func := "loop.example/g00915/laws.FnPeaks", spec := "fnPeaks", recurses := true, apart := false }
def FnPeaksSaid : Prop := fnPeaksRow.holds Try.pinned (OpenSpec.ofChange fnPeaksSpec)

/-- ITS FALSE NEIGHBOUR: 'it returns false'. Refute it at one input. -/
def fnPeaksWrong : ChangeSpec := { name := "fnPeaks", fn := fun _ => fun
  | [d] => { results := [.lit (.bool false)], args := [d] }
  | _ => none }
def FnPeaksWrongFalsely : Prop := fnPeaksRow.holds Try.pinned (OpenSpec.ofChange fnPeaksWrong)

/-- 'laws.FnExactCorrelations': WHATEVER THE INPUT: true; the input reads as it did. -/
def fnExactCorrelationsSpec : ChangeSpec := { name := "fnExactCorrelations", fn := fun _ => fun
  | [d] => { results := [.lit (.bool true)], args := [d] }
  | _ => none }
def fnExactCorrelationsRow : OpenClaim := { program := "ytgfhmihnnjcagaa", sum := "88a79f4d2052a85bbb1d7b0414094b2d0e957d4c4ef0471889329eb6883e82f5", func := "loop.example/g00915/laws.FnExactCorrelations", spec := "fnExactCorrelations", apart := false }
def FnExactCorrelationsSaid : Prop := fnExactCorrelationsRow.holds Try.pinned (OpenSpec.ofChange fnExactCorrelationsSpec)

/-- ITS FALSE NEIGHBOUR: 'it returns false'. Refute it at one input. -/
def fnExactCorrelationsWrong : ChangeSpec := { name := "fnExactCorrelations", fn := fun _ => fun
  | [d] => { results := [.lit (.bool false)], args := [d] }
  | _ => none }
def FnExactCorrelationsWrongFalsely : Prop := fnExactCorrelationsRow.holds Try.pinned (OpenSpec.ofChange fnExactCorrelationsWrong)

/-- 'laws.FnExactEchoesOf': WHATEVER THE INPUT: true; the input reads as it did. -/
def fnExactEchoesOfSpec : ChangeSpec := { name := "fnExactEchoesOf", fn := fun _ => fun
  | [d1, d2, d3, d4] => { results := [.lit (.bool true)], args := [d1, d2, d3, d4] }
  | _ => none }
def fnExactEchoesOfRow : OpenClaim := { program := "ytgfhmihnnjcagaa", sum := "88a79f4d2052a85bbb1d7b0414094b2d0e957d4c4ef0471889329eb6883e82f5", func := "loop.example/g00915/laws.FnExactEchoesOf", spec := "fnExactEchoesOf", apart := false }
def FnExactEchoesOfSaid : Prop := fnExactEchoesOfRow.holds Try.pinned (OpenSpec.ofChange fnExactEchoesOfSpec)

/-- ITS FALSE NEIGHBOUR: 'it returns false'. Refute it at one input. -/
def fnExactEchoesOfWrong : ChangeSpec := { name := "fnExactEchoesOf", fn := fun _ => fun
  | [d1, d2, d3, d4] => { results := [.lit (.bool false)], args := [d1, d2, d3, d4] }
  | _ => none }
def FnExactEchoesOfWrongFalsely : Prop := fnExactEchoesOfRow.holds Try.pinned (OpenSpec.ofChange fnExactEchoesOfWrong)

/-- 'laws.FnExactIsClearEcho': WHATEVER THE INPUT: true; the input reads as it did. -/
def fnExactIsClearEchoSpec : ChangeSpec := { name := "fnExactIsClearEcho", fn := fun _ => fun
  | [d1, d2, d3] => { results := [.lit (.bool true)], args := [d1, d2, d3] }
  | _ => none }
def fnExactIsClearEchoRow : OpenClaim := { program := "ytgfhmihnnjcagaa", sum := "88a79f4d2052a85bbb1d7b0414094b2d0e957d4c4ef0471889329eb6883e82f5", func := "loop.example/g00915/laws.FnExactIsClearEcho", spec := "fnExactIsClearEcho", apart := false }
def FnExactIsClearEchoSaid : Prop := fnExactIsClearEchoRow.holds Try.pinned (OpenSpec.ofChange fnExactIsClearEchoSpec)

/-- ITS FALSE NEIGHBOUR: 'it returns false'. Refute it at one input. -/
def fnExactIsClearEchoWrong : ChangeSpec := { name := "fnExactIsClearEcho", fn := fun _ => fun
  | [d1, d2, d3] => { results := [.lit (.bool false)], args := [d1, d2, d3] }
  | _ => none }
def FnExactIsClearEchoWrongFalsely : Prop := fnExactIsClearEchoRow.holds Try.pinned (OpenSpec.ofChange fnExactIsClearEchoWrong)

/-- 'laws.FnExactMatchSignal': WHATEVER THE INPUT: true; the input reads as it did. -/
def fnExactMatchSignalSpec : ChangeSpec := { name := "fnExactMatchSignal", fn := fun _ => fun
  | [d1, d2] => { results := [.lit (.bool true)], args := [d1, d2] }
  | _ => none }
def fnExactMatchSignalRow : OpenClaim := { program := "ytgfhmihnnjcagaa", sum := "88a79f4d2052a85bbb1d7b0414094b2d0e957d4c4ef0471889329eb6883e82f5", func := "loop.example/g00915/laws.FnExactMatchSignal", spec := "fnExactMatchSignal", apart := false }
def FnExactMatchSignalSaid : Prop := fnExactMatchSignalRow.holds Try.pinned (OpenSpec.ofChange fnExactMatchSignalSpec)

/-- ITS FALSE NEIGHBOUR: 'it returns false'. Refute it at one input. -/
def fnExactMatchSignalWrong : ChangeSpec := { name := "fnExactMatchSignal", fn := fun _ => fun
  | [d1, d2] => { results := [.lit (.bool false)], args := [d1, d2] }
  | _ => none }
def FnExactMatchSignalWrongFalsely : Prop := fnExactMatchSignalRow.holds Try.pinned (OpenSpec.ofChange fnExactMatchSignalWrong)

/-- 'laws.FnExactDelayOf': WHATEVER THE INPUT: true; the input reads as it did. -/
def fnExactDelayOfSpec : ChangeSpec := { name := "fnExactDelayOf", fn := fun _ => fun
  | [d1, d2] => { results := [.lit (.bool true)], args := [d1, d2] }
  | _ => none }
def fnExactDelayOfRow : OpenClaim := { program := "ytgfhmihnnjcagaa", sum := "88a79f4d2052a85bbb1d7b0414094b2d0e957d4c4ef0471889329eb6883e82f5", func := "loop.example/g00915/laws.FnExactDelayOf", spec := "fnExactDelayOf", apart := false }
def FnExactDelayOfSaid : Prop := fnExactDelayOfRow.holds Try.pinned (OpenSpec.ofChange fnExactDelayOfSpec)

/-- ITS FALSE NEIGHBOUR: 'it returns false'. Refute it at one input. -/
def fnExactDelayOfWrong : ChangeSpec := { name := "fnExactDelayOf", fn := fun _ => fun
  | [d1, d2] => { results := [.lit (.bool false)], args := [d1, d2] }
  | _ => none }
def FnExactDelayOfWrongFalsely : Prop := fnExactDelayOfRow.holds Try.pinned (OpenSpec.ofChange fnExactDelayOfWrong)

/-- 'laws.FnExactLeastGain': WHATEVER THE INPUT: true; the input reads as it did. -/
def fnExactLeastGainSpec : ChangeSpec := { name := "fnExactLeastGain", fn := fun _ => fun
  | [d1, d2] => { results := [.lit (.bool true)], args := [d1, d2] }
  | _ => none }
def fnExactLeastGainRow : OpenClaim := { program := "ytgfhmihnnjcagaa", sum := "88a79f4d2052a85bbb1d7b0414094b2d0e957d4c4ef0471889329eb6883e82f5", func := "loop.example/g00915/laws.FnExactLeastGain", spec := "fnExactLeastGain", apart := false }
def FnExactLeastGainSaid : Prop := fnExactLeastGainRow.holds Try.pinned (OpenSpec.ofChange fnExactLeastGainSpec)

/-- ITS FALSE NEIGHBOUR: 'it returns false'. Refute it at one input. -/
def fnExactLeastGainWrong : ChangeSpec := { name := "fnExactLeastGain", fn := fun _ => fun
  | [d1, d2] => { results := [.lit (.bool false)], args := [d1, d2] }
  | _ => none }
def FnExactLeastGainWrongFalsely : Prop := fnExactLeastGainRow.holds Try.pinned (OpenSpec.ofChange fnExactLeastGainWrong)

/-- 'laws.FnExactPulseOfBits': WHATEVER THE INPUT: true; the input reads as it did. -/
def fnExactPulseOfBitsSpec : ChangeSpec := { name := "fnExactPulseOfBits", fn := fun _ => fun
  | [d1, d2, d3] => { results := [.lit (.bool true)], args := [d1, d2, d3] }
  | _ => none }
def fnExactPulseOfBitsRow : OpenClaim := { program := "ytgfhmihnnjcagaa", sum := "88a79f4d2052a85bbb1d7b0414094b2d0e957d4c4ef0471889329eb6883e82f5", func := "loop.example/g00915/laws.FnExactPulseOfBits", spec := "fnExactPulseOfBits", apart := false }
def FnExactPulseOfBitsSaid : Prop := fnExactPulseOfBitsRow.holds Try.pinned (OpenSpec.ofChange fnExactPulseOfBitsSpec)

/-- ITS FALSE NEIGHBOUR: 'it returns false'. Refute it at one input. -/
def fnExactPulseOfBitsWrong : ChangeSpec := { name := "fnExactPulseOfBits", fn := fun _ => fun
  | [d1, d2, d3] => { results := [.lit (.bool false)], args := [d1, d2, d3] }
  | _ => none }
def FnExactPulseOfBitsWrongFalsely : Prop := fnExactPulseOfBitsRow.holds Try.pinned (OpenSpec.ofChange fnExactPulseOfBitsWrong)

/-- 'laws.FnExactBestCode': WHATEVER THE INPUT: true; the input reads as it did. -/
def fnExactBestCodeSpec : ChangeSpec := { name := "fnExactBestCode", fn := fun _ => fun
  | [d] => { results := [.lit (.bool true)], args := [d] }
  | _ => none }
def fnExactBestCodeRow : OpenClaim := { program := "ytgfhmihnnjcagaa", sum := "88a79f4d2052a85bbb1d7b0414094b2d0e957d4c4ef0471889329eb6883e82f5", func := "loop.example/g00915/laws.FnExactBestCode", spec := "fnExactBestCode", apart := false }
def FnExactBestCodeSaid : Prop := fnExactBestCodeRow.holds Try.pinned (OpenSpec.ofChange fnExactBestCodeSpec)

/-- ITS FALSE NEIGHBOUR: 'it returns false'. Refute it at one input. -/
def fnExactBestCodeWrong : ChangeSpec := { name := "fnExactBestCode", fn := fun _ => fun
  | [d] => { results := [.lit (.bool false)], args := [d] }
  | _ => none }
def FnExactBestCodeWrongFalsely : Prop := fnExactBestCodeRow.holds Try.pinned (OpenSpec.ofChange fnExactBestCodeWrong)

/-- 'laws.FnPulses': WHATEVER THE INPUT: true; the input reads as it did. -/
def fnPulsesSpec : ChangeSpec := { name := "fnPulses", fn := fun _ => fun
  | [d] => { results := [.lit (.bool true)], args := [d] }
  | _ => none }
def fnPulsesRow : OpenClaim := { program := "ytgfhmihnnjcagaa", sum := "88a79f4d2052a85bbb1d7b0414094b2d0e957d4c4ef0471889329eb6883e82f5", func := "loop.example/g00915/laws.FnPulses", spec := "fnPulses", apart := false }
def FnPulsesSaid : Prop := fnPulsesRow.holds Try.pinned (OpenSpec.ofChange fnPulsesSpec)

/-- ITS FALSE NEIGHBOUR: 'it returns false'. Refute it at one input. -/
def fnPulsesWrong : ChangeSpec := { name := "fnPulses", fn := fun _ => fun
  | [d] => { results := [.lit (.bool false)], args := [d] }
  | _ => none }
def FnPulsesWrongFalsely : Prop := fnPulsesRow.holds Try.pinned (OpenSpec.ofChange fnPulsesWrong)

/-- 'laws.FnMatches': WHATEVER THE INPUT: true; the input reads as it did. -/
def fnMatchesSpec : ChangeSpec := { name := "fnMatches", fn := fun _ => fun
  | [d] => { results := [.lit (.bool true)], args := [d] }
  | _ => none }
def fnMatchesRow : OpenClaim := { program := "ytgfhmihnnjcagaa", sum := "88a79f4d2052a85bbb1d7b0414094b2d0e957d4c4ef0471889329eb6883e82f5", func := "loop.example/g00915/laws.FnMatches", spec := "fnMatches", apart := false }
def FnMatchesSaid : Prop := fnMatchesRow.holds Try.pinned (OpenSpec.ofChange fnMatchesSpec)

/-- ITS FALSE NEIGHBOUR: 'it returns false'. Refute it at one input. -/
def fnMatchesWrong : ChangeSpec := { name := "fnMatches", fn := fun _ => fun
  | [d] => { results := [.lit (.bool false)], args := [d] }
  | _ => none }
def FnMatchesWrongFalsely : Prop := fnMatchesRow.holds Try.pinned (OpenSpec.ofChange fnMatchesWrong)

/-- 'laws.FnCorrelated': WHATEVER THE INPUT: true; the input reads as it did. -/
def fnCorrelatedSpec : ChangeSpec := { name := "fnCorrelated", fn := fun _ => fun
  | [d] => { results := [.lit (.bool true)], args := [d] }
  | _ => none }
def fnCorrelatedRow : OpenClaim := { program := "ytgfhmihnnjcagaa", sum := "88a79f4d2052a85bbb1d7b0414094b2d0e957d4c4ef0471889329eb6883e82f5", func := "loop.example/g00915/laws.FnCorrelated", spec := "fnCorrelated", apart := false }
def FnCorrelatedSaid : Prop := fnCorrelatedRow.holds Try.pinned (OpenSpec.ofChange fnCorrelatedSpec)

/-- ITS FALSE NEIGHBOUR: 'it returns false'. Refute it at one input. -/
def fnCorrelatedWrong : ChangeSpec := { name := "fnCorrelated", fn := fun _ => fun
  | [d] => { results := [.lit (.bool false)], args := [d] }
  | _ => none }
def FnCorrelatedWrongFalsely : Prop := fnCorrelatedRow.holds Try.pinned (OpenSpec.ofChange fnCorrelatedWrong)

/-- 'laws.FnExactFindEchoes': WHATEVER THE INPUT: true; the input reads as it did. -/
def fnExactFindEchoesSpec : ChangeSpec := { name := "fnExactFindEchoes", fn := fun _ => fun
  | [d1, d2, d3, d4] => { results := [.lit (.bool true)], args := [d1, d2, d3, d4] }
  | _ => none }
def fnExactFindEchoesRow : OpenClaim := { program := "ytgfhmihnnjcagaa", sum := "88a79f4d2052a85bbb1d7b0414094b2d0e957d4c4ef0471889329eb6883e82f5", func := "loop.example/g00915/laws.FnExactFindEchoes", spec := "fnExactFindEchoes", apart := false }
def FnExactFindEchoesSaid : Prop := fnExactFindEchoesRow.holds Try.pinned (OpenSpec.ofChange fnExactFindEchoesSpec)

/-- ITS FALSE NEIGHBOUR: 'it returns false'. Refute it at one input. -/
def fnExactFindEchoesWrong : ChangeSpec := { name := "fnExactFindEchoes", fn := fun _ => fun
  | [d1, d2, d3, d4] => { results := [.lit (.bool false)], args := [d1, d2, d3, d4] }
  | _ => none }
def FnExactFindEchoesWrongFalsely : Prop := fnExactFindEchoesRow.holds Try.pinned (OpenSpec.ofChange fnExactFindEchoesWrong)

/-- 'laws.FnEchoSums': WHATEVER THE INPUT: true; the input reads as it did. -/
def fnEchoSumsSpec : ChangeSpec := { name := "fnEchoSums", fn := fun _ => fun
  | [d] => { results := [.lit (.bool true)], args := [d] }
  | _ => none }
def fnEchoSumsRow : OpenClaim := { program := "ytgfhmihnnjcagaa", sum := "88a79f4d2052a85bbb1d7b0414094b2d0e957d4c4ef0471889329eb6883e82f5", func := "loop.example/g00915/laws.FnEchoSums", spec := "fnEchoSums", apart := false }
def FnEchoSumsSaid : Prop := fnEchoSumsRow.holds Try.pinned (OpenSpec.ofChange fnEchoSumsSpec)

/-- ITS FALSE NEIGHBOUR: 'it returns false'. Refute it at one input. -/
def fnEchoSumsWrong : ChangeSpec := { name := "fnEchoSums", fn := fun _ => fun
  | [d] => { results := [.lit (.bool false)], args := [d] }
  | _ => none }
def FnEchoSumsWrongFalsely : Prop := fnEchoSumsRow.holds Try.pinned (OpenSpec.ofChange fnEchoSumsWrong)

/-- 'laws.FnClearEchoes': WHATEVER THE INPUT: true; the input reads as it did. -/
def fnClearEchoesSpec : ChangeSpec := { name := "fnClearEchoes", fn := fun _ => fun
  | [d] => { results := [.lit (.bool true)], args := [d] }
  | _ => none }
def fnClearEchoesRow : OpenClaim := { program := "ytgfhmihnnjcagaa", sum := "88a79f4d2052a85bbb1d7b0414094b2d0e957d4c4ef0471889329eb6883e82f5", func := "loop.example/g00915/laws.FnClearEchoes", spec := "fnClearEchoes", apart := false }
def FnClearEchoesSaid : Prop := fnClearEchoesRow.holds Try.pinned (OpenSpec.ofChange fnClearEchoesSpec)

/-- ITS FALSE NEIGHBOUR: 'it returns false'. Refute it at one input. -/
def fnClearEchoesWrong : ChangeSpec := { name := "fnClearEchoes", fn := fun _ => fun
  | [d] => { results := [.lit (.bool false)], args := [d] }
  | _ => none }
def FnClearEchoesWrongFalsely : Prop := fnClearEchoesRow.holds Try.pinned (OpenSpec.ofChange fnClearEchoesWrong)

/-- 'laws.FnEchoes': WHATEVER THE INPUT: true; the input reads as it did. -/
def fnEchoesSpec : ChangeSpec := { name := "fnEchoes", fn := fun _ => fun
  | [d] => { results := [.lit (.bool true)], args := [d] }
  | _ => none }
def fnEchoesRow : OpenClaim := { program := "ytgfhmihnnjcagaa", sum := "88a79f4d2052a85bbb1d7b0414094b2d0e957d4c4ef0471889329eb6883e82f5", func := "loop.example/g00915/laws.FnEchoes", spec := "fnEchoes", apart := false }
def FnEchoesSaid : Prop := fnEchoesRow.holds Try.pinned (OpenSpec.ofChange fnEchoesSpec)

/-- ITS FALSE NEIGHBOUR: 'it returns false'. Refute it at one input. -/
def fnEchoesWrong : ChangeSpec := { name := "fnEchoes", fn := fun _ => fun
  | [d] => { results := [.lit (.bool false)], args := [d] }
  | _ => none }
def FnEchoesWrongFalsely : Prop := fnEchoesRow.holds Try.pinned (OpenSpec.ofChange fnEchoesWrong)

/- THE SECOND FORM. 'bulk': how many values and letters a reading holds, each counted each time it is reached (what is shared counts as often as it is met; a slice's spare places count too). A statement '..UptoSaid' is the law's where the arguments, and the package variables that the reading takes, are together of bulk at most 1048576: NARROWER than '..Said'. Prove '..Said' where nothing that the law and all that it calls make is longer than what came in: it says more and counts as full. Else prove '..UptoSaid'. A law counts once. -/
mutual
def uptoBulk {H : Type} : DataW H → Nat
  | .lit (.string bytes) => bytes.length + 1
  | .lit _ => 1
  | .nil => 1
  | .ptr d => uptoBulk d + 1
  | .slice elems spare => uptoBulkAll elems + uptoBulkAll spare + 1
  | .agg parts => uptoBulkAll parts + 1
  | .iface _ d => uptoBulk d + 1
  | .map entries => uptoBulkEntries entries + 1
  | .held _ => 1
def uptoBulkAll {H : Type} : List (DataW H) → Nat
  | [] => 0
  | d :: r => uptoBulk d + uptoBulkAll r
def uptoBulkEntries {H : Type} : List (Lit × DataW H) → Nat
  | [] => 0
  | x :: r => uptoBulkEntry x + uptoBulkEntries r
def uptoBulkEntry {H : Type} : Lit × DataW H → Nat
  | (.string bytes, d) => bytes.length + uptoBulk d + 1
  | (_, d) => uptoBulk d + 1
 end
def uptoSmall : (H : Type) → List (DataW H) → Bool := fun _ ds => decide (uptoBulkAll ds ≤ 1048576)
def OpenSpec.upto (s : _root_.Go.ChangeSpec) : _root_.Go.OpenSpec := { _root_.Go.OpenSpec.ofChange s with cond := some uptoSmall }

/-- 'laws.FnExactPeaksOver', WHERE WHAT IT READS IS OF BULK AT MOST 1048576: true; the input reads as it did. -/
def fnExactPeaksOverUptoRow : OpenClaim := { program := "ytgfhmihnnjcagaa", sum := "88a79f4d2052a85bbb1d7b0414094b2d0e957d4c4ef0471889329eb6883e82f5", func := "loop.example/g00915/laws.FnExactPeaksOver", spec := "fnExactPeaksOver", recurses := true, apart := false, narrowed := true }
def FnExactPeaksOverUptoSaid : Prop := fnExactPeaksOverUptoRow.holds Try.pinned (OpenSpec.upto fnExactPeaksOverSpec)

/-- 'laws.FnExactWeightOf', WHERE WHAT IT READS IS OF BULK AT MOST 1048576: true; the input reads as it did. -/
def fnExactWeightOfUptoRow : OpenClaim := { program := "ytgfhmihnnjcagaa", sum := "88a79f4d2052a85bbb1d7b0414094b2d0e957d4c4ef0471889329eb6883e82f5", func := "loop.example/g00915/laws.FnExactWeightOf", spec := "fnExactWeightOf", apart := false, narrowed := true }
def FnExactWeightOfUptoSaid : Prop := fnExactWeightOfUptoRow.holds Try.pinned (OpenSpec.upto fnExactWeightOfSpec)

/-- 'laws.FnExactPeakOf', WHERE WHAT IT READS IS OF BULK AT MOST 1048576: true; the input reads as it did. -/
def fnExactPeakOfUptoRow : OpenClaim := { program := "ytgfhmihnnjcagaa", sum := "88a79f4d2052a85bbb1d7b0414094b2d0e957d4c4ef0471889329eb6883e82f5", func := "loop.example/g00915/laws.FnExactPeakOf", spec := "fnExactPeakOf", apart := false, narrowed := true }
def FnExactPeakOfUptoSaid : Prop := fnExactPeakOfUptoRow.holds Try.pinned (OpenSpec.upto fnExactPeakOfSpec)

/-- 'laws.FnPeaks', WHERE WHAT IT READS IS OF BULK AT MOST 1048576: true; the input reads as it did. -/
def fnPeaksUptoRow : OpenClaim := { program := "ytgfhmihnnjcagaa", sum := "88a79f4d2052a85bbb1d7b0414094b2d0e957d4c4ef0471889329eb6883e82f5", func := "loop.example/g00915/laws.FnPeaks", spec := "fnPeaks", recurses := true, apart := false, narrowed := true }
def FnPeaksUptoSaid : Prop := fnPeaksUptoRow.holds Try.pinned (OpenSpec.upto fnPeaksSpec)

/-- 'laws.FnExactCorrelations', WHERE WHAT IT READS IS OF BULK AT MOST 1048576: true; the input reads as it did. -/
def fnExactCorrelationsUptoRow : OpenClaim := { program := "ytgfhmihnnjcagaa", sum := "88a79f4d2052a85bbb1d7b0414094b2d0e957d4c4ef0471889329eb6883e82f5", func := "loop.example/g00915/laws.FnExactCorrelations", spec := "fnExactCorrelations", apart := false, narrowed := true }
def FnExactCorrelationsUptoSaid : Prop := fnExactCorrelationsUptoRow.holds Try.pinned (OpenSpec.upto fnExactCorrelationsSpec)

/-- 'laws.FnExactEchoesOf', WHERE WHAT IT READS IS OF BULK AT MOST 1048576: true; the input reads as it did. -/
def fnExactEchoesOfUptoRow : OpenClaim := { program := "ytgfhmihnnjcagaa", sum := "88a79f4d2052a85bbb1d7b0414094b2d0e957d4c4ef0471889329eb6883e82f5", func := "loop.example/g00915/laws.FnExactEchoesOf", spec := "fnExactEchoesOf", apart := false, narrowed := true }
def FnExactEchoesOfUptoSaid : Prop := fnExactEchoesOfUptoRow.holds Try.pinned (OpenSpec.upto fnExactEchoesOfSpec)

/-- 'laws.FnExactIsClearEcho', WHERE WHAT IT READS IS OF BULK AT MOST 1048576: true; the input reads as it did. -/
def fnExactIsClearEchoUptoRow : OpenClaim := { program := "ytgfhmihnnjcagaa", sum := "88a79f4d2052a85bbb1d7b0414094b2d0e957d4c4ef0471889329eb6883e82f5", func := "loop.example/g00915/laws.FnExactIsClearEcho", spec := "fnExactIsClearEcho", apart := false, narrowed := true }
def FnExactIsClearEchoUptoSaid : Prop := fnExactIsClearEchoUptoRow.holds Try.pinned (OpenSpec.upto fnExactIsClearEchoSpec)

/-- 'laws.FnExactMatchSignal', WHERE WHAT IT READS IS OF BULK AT MOST 1048576: true; the input reads as it did. -/
def fnExactMatchSignalUptoRow : OpenClaim := { program := "ytgfhmihnnjcagaa", sum := "88a79f4d2052a85bbb1d7b0414094b2d0e957d4c4ef0471889329eb6883e82f5", func := "loop.example/g00915/laws.FnExactMatchSignal", spec := "fnExactMatchSignal", apart := false, narrowed := true }
def FnExactMatchSignalUptoSaid : Prop := fnExactMatchSignalUptoRow.holds Try.pinned (OpenSpec.upto fnExactMatchSignalSpec)

/-- 'laws.FnExactDelayOf', WHERE WHAT IT READS IS OF BULK AT MOST 1048576: true; the input reads as it did. -/
def fnExactDelayOfUptoRow : OpenClaim := { program := "ytgfhmihnnjcagaa", sum := "88a79f4d2052a85bbb1d7b0414094b2d0e957d4c4ef0471889329eb6883e82f5", func := "loop.example/g00915/laws.FnExactDelayOf", spec := "fnExactDelayOf", apart := false, narrowed := true }
def FnExactDelayOfUptoSaid : Prop := fnExactDelayOfUptoRow.holds Try.pinned (OpenSpec.upto fnExactDelayOfSpec)

/-- 'laws.FnExactLeastGain', WHERE WHAT IT READS IS OF BULK AT MOST 1048576: true; the input reads as it did. -/
def fnExactLeastGainUptoRow : OpenClaim := { program := "ytgfhmihnnjcagaa", sum := "88a79f4d2052a85bbb1d7b0414094b2d0e957d4c4ef0471889329eb6883e82f5", func := "loop.example/g00915/laws.FnExactLeastGain", spec := "fnExactLeastGain", apart := false, narrowed := true }
def FnExactLeastGainUptoSaid : Prop := fnExactLeastGainUptoRow.holds Try.pinned (OpenSpec.upto fnExactLeastGainSpec)

/-- 'laws.FnExactPulseOfBits', WHERE WHAT IT READS IS OF BULK AT MOST 1048576: true; the input reads as it did. -/
def fnExactPulseOfBitsUptoRow : OpenClaim := { program := "ytgfhmihnnjcagaa", sum := "88a79f4d2052a85bbb1d7b0414094b2d0e957d4c4ef0471889329eb6883e82f5", func := "loop.example/g00915/laws.FnExactPulseOfBits", spec := "fnExactPulseOfBits", apart := false, narrowed := true }
def FnExactPulseOfBitsUptoSaid : Prop := fnExactPulseOfBitsUptoRow.holds Try.pinned (OpenSpec.upto fnExactPulseOfBitsSpec)

/-- 'laws.FnExactBestCode', WHERE WHAT IT READS IS OF BULK AT MOST 1048576: true; the input reads as it did. -/
def fnExactBestCodeUptoRow : OpenClaim := { program := "ytgfhmihnnjcagaa", sum := "88a79f4d2052a85bbb1d7b0414094b2d0e957d4c4ef0471889329eb6883e82f5", func := "loop.example/g00915/laws.FnExactBestCode", spec := "fnExactBestCode", apart := false, narrowed := true }
def FnExactBestCodeUptoSaid : Prop := fnExactBestCodeUptoRow.holds Try.pinned (OpenSpec.upto fnExactBestCodeSpec)

/-- 'laws.FnPulses', WHERE WHAT IT READS IS OF BULK AT MOST 1048576: true; the input reads as it did. -/
def fnPulsesUptoRow : OpenClaim := { program := "ytgfhmihnnjcagaa", sum := "88a79f4d2052a85bbb1d7b0414094b2d0e957d4c4ef0471889329eb6883e82f5", func := "loop.example/g00915/laws.FnPulses", spec := "fnPulses", apart := false, narrowed := true }
def FnPulsesUptoSaid : Prop := fnPulsesUptoRow.holds Try.pinned (OpenSpec.upto fnPulsesSpec)

/-- 'laws.FnMatches', WHERE WHAT IT READS IS OF BULK AT MOST 1048576: true; the input reads as it did. -/
def fnMatchesUptoRow : OpenClaim := { program := "ytgfhmihnnjcagaa", sum := "88a79f4d2052a85bbb1d7b0414094b2d0e957d4c4ef0471889329eb6883e82f5", func := "loop.example/g00915/laws.FnMatches", spec := "fnMatches", apart := false, narrowed := true }
def FnMatchesUptoSaid : Prop := fnMatchesUptoRow.holds Try.pinned (OpenSpec.upto fnMatchesSpec)

/-- 'laws.FnCorrelated', WHERE WHAT IT READS IS OF BULK AT MOST 1048576: true; the input reads as it did. -/
def fnCorrelatedUptoRow : OpenClaim := { program := "ytgfhmihnnjcagaa", sum := "88a79f4d2052a85bbb1d7b0414094b2d0e957d4c4ef0471889329eb6883e82f5", func := "loop.example/g00915/laws.FnCorrelated", spec := "fnCorrelated", apart := false, narrowed := true }
def FnCorrelatedUptoSaid : Prop := fnCorrelatedUptoRow.holds Try.pinned (OpenSpec.upto fnCorrelatedSpec)

/-- 'laws.FnExactFindEchoes', WHERE WHAT IT READS IS OF BULK AT MOST 1048576: true; the input reads as it did. -/
def fnExactFindEchoesUptoRow : OpenClaim := { program := "ytgfhmihnnjcagaa", sum := "88a79f4d2052a85bbb1d7b0414094b2d0e957d4c4ef0471889329eb6883e82f5", func := "loop.example/g00915/laws.FnExactFindEchoes", spec := "fnExactFindEchoes", apart := false, narrowed := true }
def FnExactFindEchoesUptoSaid : Prop := fnExactFindEchoesUptoRow.holds Try.pinned (OpenSpec.upto fnExactFindEchoesSpec)

/-- 'laws.FnEchoSums', WHERE WHAT IT READS IS OF BULK AT MOST 1048576: true; the input reads as it did. -/
def fnEchoSumsUptoRow : OpenClaim := { program := "ytgfhmihnnjcagaa", sum := "88a79f4d2052a85bbb1d7b0414094b2d0e957d4c4ef0471889329eb6883e82f5", func := "loop.example/g00915/laws.FnEchoSums", spec := "fnEchoSums", apart := false, narrowed := true }
def FnEchoSumsUptoSaid : Prop := fnEchoSumsUptoRow.holds Try.pinned (OpenSpec.upto fnEchoSumsSpec)

/-- 'laws.FnClearEchoes', WHERE WHAT IT READS IS OF BULK AT MOST 1048576: true; the input reads as it did. -/
def fnClearEchoesUptoRow : OpenClaim := { program := "ytgfhmihnnjcagaa", sum := "88a79f4d2052a85bbb1d7b0414094b2d0e957d4c4ef0471889329eb6883e82f5", func := "loop.example/g00915/laws.FnClearEchoes", spec := "fnClearEchoes", apart := false, narrowed := true }
def FnClearEchoesUptoSaid : Prop := fnClearEchoesUptoRow.holds Try.pinned (OpenSpec.upto fnClearEchoesSpec)

/-- 'laws.FnEchoes', WHERE WHAT IT READS IS OF BULK AT MOST 1048576: true; the input reads as it did. -/
def fnEchoesUptoRow : OpenClaim := { program := "ytgfhmihnnjcagaa", sum := "88a79f4d2052a85bbb1d7b0414094b2d0e957d4c4ef0471889329eb6883e82f5", func := "loop.example/g00915/laws.FnEchoes", spec := "fnEchoes", apart := false, narrowed := true }
def FnEchoesUptoSaid : Prop := fnEchoesUptoRow.holds Try.pinned (OpenSpec.upto fnEchoesSpec)

end Rows
end Go.Proofs.Ytgfhmihnnjcagaa
