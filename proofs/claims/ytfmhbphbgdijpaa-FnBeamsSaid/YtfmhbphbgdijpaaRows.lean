/-
  No cell of these rows narrows 'for every input' (looked for: loops, veiled, ifaces, maps, wideKeys, modest, calm, conditions, laid).
  DERIVED. THE GIVEN ROWS OF THIS SEAT. 11 by the template 'for every input the law returns true; each argument reads behind the call as it read before'; 0 by the template 'total and deterministic' (their statements: YtfmhbphbgdijpaaTotals.lean).
  GIVEN WITH THE SEED: the statements are not yours to turn. If you find one false, say at which input.
  Laid BY PROGRAM, IN A SANDBOX (cutbox-rows.mjs): the forced cells as the released guide's own fill.sh prints them over the translation 9984735c902a381c… (all of the seat's roots in one cut). By AI agents, Wed Nov 11 2026. No macro, syntax, notation, axiom, sorry.
-/
import Derived.Test.YtfmhbphbgdijpaaChecked
import GoSem.Claim
import GoSem.ClaimJoined
import GoSem.ClaimMapViews
import Derived.JoinedTies
import Derived.KernelRfl
namespace Go.Proofs.Ytfmhbphbgdijpaa
/- THE CELL 'sum', in the pinned program and in every row, IS THE sha256 OF THE DUMP (.gsa) THAT YtfmhbphbgdijpaaProg.lean LOADS. Nothing in Lean hashes anything: it is a label: what it is worth is what the hold of that sum in a sandbox is worth. -/
noncomputable def Try.pinned : Pinned := { name := "ytfmhbphbgdijpaa", sum := "9984735c902a381cb6af66751481e487d5d505ce4ced31a59c7971839e10a021", checked := Try.checked }
namespace Rows
def none {H : Type} : Left H := { results := [], args := [] }

/-- 'laws.FnExactIsArray': WHATEVER THE INPUT: true; the input reads as it did. -/
def fnExactIsArraySpec : ChangeSpec := { name := "fnExactIsArray", fn := fun _ => fun
  | [d] => { results := [.lit (.bool true)], args := [d] }
  | _ => none }
def fnExactIsArrayRow : OpenClaim := { program := "ytfmhbphbgdijpaa", sum := "9984735c902a381cb6af66751481e487d5d505ce4ced31a59c7971839e10a021", func := "loop.example/g00915/laws.FnExactIsArray", spec := "fnExactIsArray", apart := false }
def FnExactIsArraySaid : Prop := fnExactIsArrayRow.holds Try.pinned (OpenSpec.ofChange fnExactIsArraySpec)

/-- ITS FALSE NEIGHBOUR: 'it returns false'. Refute it at one input. -/
def fnExactIsArrayWrong : ChangeSpec := { name := "fnExactIsArray", fn := fun _ => fun
  | [d] => { results := [.lit (.bool false)], args := [d] }
  | _ => none }
def FnExactIsArrayWrongFalsely : Prop := fnExactIsArrayRow.holds Try.pinned (OpenSpec.ofChange fnExactIsArrayWrong)

/-- 'laws.FnBeams': WHATEVER THE INPUT: true; the input reads as it did. -/
def fnBeamsSpec : ChangeSpec := { name := "fnBeams", fn := fun _ => fun
  | [d] => { results := [.lit (.bool true)], args := [d] }
  | _ => none }
def fnBeamsRow : OpenClaim := { program := "ytfmhbphbgdijpaa", sum := "9984735c902a381cb6af66751481e487d5d505ce4ced31a59c7971839e10a021", func := "loop.example/g00915/laws.FnBeams", spec := "fnBeams", unfollowed := true, recurses := true, apart := false }
def FnBeamsSaid : Prop := fnBeamsRow.holds Try.pinned (OpenSpec.ofChange fnBeamsSpec)

/-- ITS FALSE NEIGHBOUR: 'it returns false'. Refute it at one input. -/
def fnBeamsWrong : ChangeSpec := { name := "fnBeams", fn := fun _ => fun
  | [d] => { results := [.lit (.bool false)], args := [d] }
  | _ => none }
def FnBeamsWrongFalsely : Prop := fnBeamsRow.holds Try.pinned (OpenSpec.ofChange fnBeamsWrong)

/-- 'laws.FnExactAreChannels': WHATEVER THE INPUT: true; the input reads as it did. -/
def fnExactAreChannelsSpec : ChangeSpec := { name := "fnExactAreChannels", fn := fun _ => fun
  | [d] => { results := [.lit (.bool true)], args := [d] }
  | _ => none }
def fnExactAreChannelsRow : OpenClaim := { program := "ytfmhbphbgdijpaa", sum := "9984735c902a381cb6af66751481e487d5d505ce4ced31a59c7971839e10a021", func := "loop.example/g00915/laws.FnExactAreChannels", spec := "fnExactAreChannels", apart := false }
def FnExactAreChannelsSaid : Prop := fnExactAreChannelsRow.holds Try.pinned (OpenSpec.ofChange fnExactAreChannelsSpec)

/-- ITS FALSE NEIGHBOUR: 'it returns false'. Refute it at one input. -/
def fnExactAreChannelsWrong : ChangeSpec := { name := "fnExactAreChannels", fn := fun _ => fun
  | [d] => { results := [.lit (.bool false)], args := [d] }
  | _ => none }
def FnExactAreChannelsWrongFalsely : Prop := fnExactAreChannelsRow.holds Try.pinned (OpenSpec.ofChange fnExactAreChannelsWrong)

/-- 'laws.FnExactBeamPower': WHATEVER THE INPUT: true; the input reads as it did. -/
def fnExactBeamPowerSpec : ChangeSpec := { name := "fnExactBeamPower", fn := fun _ => fun
  | [d1, d2] => { results := [.lit (.bool true)], args := [d1, d2] }
  | _ => none }
def fnExactBeamPowerRow : OpenClaim := { program := "ytfmhbphbgdijpaa", sum := "9984735c902a381cb6af66751481e487d5d505ce4ced31a59c7971839e10a021", func := "loop.example/g00915/laws.FnExactBeamPower", spec := "fnExactBeamPower", apart := false }
def FnExactBeamPowerSaid : Prop := fnExactBeamPowerRow.holds Try.pinned (OpenSpec.ofChange fnExactBeamPowerSpec)

/-- ITS FALSE NEIGHBOUR: 'it returns false'. Refute it at one input. -/
def fnExactBeamPowerWrong : ChangeSpec := { name := "fnExactBeamPower", fn := fun _ => fun
  | [d1, d2] => { results := [.lit (.bool false)], args := [d1, d2] }
  | _ => none }
def FnExactBeamPowerWrongFalsely : Prop := fnExactBeamPowerRow.holds Try.pinned (OpenSpec.ofChange fnExactBeamPowerWrong)

/-- 'laws.FnExactBeamOf': WHATEVER THE INPUT: true; the input reads as it did. -/
def fnExactBeamOfSpec : ChangeSpec := { name := "fnExactBeamOf", fn := fun _ => fun
  | [d1, d2] => { results := [.lit (.bool true)], args := [d1, d2] }
  | _ => none }
def fnExactBeamOfRow : OpenClaim := { program := "ytfmhbphbgdijpaa", sum := "9984735c902a381cb6af66751481e487d5d505ce4ced31a59c7971839e10a021", func := "loop.example/g00915/laws.FnExactBeamOf", spec := "fnExactBeamOf", apart := false }
def FnExactBeamOfSaid : Prop := fnExactBeamOfRow.holds Try.pinned (OpenSpec.ofChange fnExactBeamOfSpec)

/-- ITS FALSE NEIGHBOUR: 'it returns false'. Refute it at one input. -/
def fnExactBeamOfWrong : ChangeSpec := { name := "fnExactBeamOf", fn := fun _ => fun
  | [d1, d2] => { results := [.lit (.bool false)], args := [d1, d2] }
  | _ => none }
def FnExactBeamOfWrongFalsely : Prop := fnExactBeamOfRow.holds Try.pinned (OpenSpec.ofChange fnExactBeamOfWrong)

/-- 'laws.FnExactDelaysOf': WHATEVER THE INPUT: true; the input reads as it did. -/
def fnExactDelaysOfSpec : ChangeSpec := { name := "fnExactDelaysOf", fn := fun _ => fun
  | [d1, d2, d3, d4] => { results := [.lit (.bool true)], args := [d1, d2, d3, d4] }
  | _ => none }
def fnExactDelaysOfRow : OpenClaim := { program := "ytfmhbphbgdijpaa", sum := "9984735c902a381cb6af66751481e487d5d505ce4ced31a59c7971839e10a021", func := "loop.example/g00915/laws.FnExactDelaysOf", spec := "fnExactDelaysOf", apart := false }
def FnExactDelaysOfSaid : Prop := fnExactDelaysOfRow.holds Try.pinned (OpenSpec.ofChange fnExactDelaysOfSpec)

/-- ITS FALSE NEIGHBOUR: 'it returns false'. Refute it at one input. -/
def fnExactDelaysOfWrong : ChangeSpec := { name := "fnExactDelaysOf", fn := fun _ => fun
  | [d1, d2, d3, d4] => { results := [.lit (.bool false)], args := [d1, d2, d3, d4] }
  | _ => none }
def FnExactDelaysOfWrongFalsely : Prop := fnExactDelaysOfRow.holds Try.pinned (OpenSpec.ofChange fnExactDelaysOfWrong)

/-- 'laws.FnExactDelayErrors': WHATEVER THE INPUT: true; the input reads as it did. -/
def fnExactDelayErrorsSpec : ChangeSpec := { name := "fnExactDelayErrors", fn := fun _ => fun
  | [d1, d2, d3, d4] => { results := [.lit (.bool true)], args := [d1, d2, d3, d4] }
  | _ => none }
def fnExactDelayErrorsRow : OpenClaim := { program := "ytfmhbphbgdijpaa", sum := "9984735c902a381cb6af66751481e487d5d505ce4ced31a59c7971839e10a021", func := "loop.example/g00915/laws.FnExactDelayErrors", spec := "fnExactDelayErrors", apart := false }
def FnExactDelayErrorsSaid : Prop := fnExactDelayErrorsRow.holds Try.pinned (OpenSpec.ofChange fnExactDelayErrorsSpec)

/-- ITS FALSE NEIGHBOUR: 'it returns false'. Refute it at one input. -/
def fnExactDelayErrorsWrong : ChangeSpec := { name := "fnExactDelayErrors", fn := fun _ => fun
  | [d1, d2, d3, d4] => { results := [.lit (.bool false)], args := [d1, d2, d3, d4] }
  | _ => none }
def FnExactDelayErrorsWrongFalsely : Prop := fnExactDelayErrorsRow.holds Try.pinned (OpenSpec.ofChange fnExactDelayErrorsWrong)

/-- 'laws.FnExactPlaneWave': WHATEVER THE INPUT: true; the input reads as it did. -/
def fnExactPlaneWaveSpec : ChangeSpec := { name := "fnExactPlaneWave", fn := fun _ => fun
  | [d1, d2, d3, d4, d5, d6, d7] => { results := [.lit (.bool true)], args := [d1, d2, d3, d4, d5, d6, d7] }
  | _ => none }
def fnExactPlaneWaveRow : OpenClaim := { program := "ytfmhbphbgdijpaa", sum := "9984735c902a381cb6af66751481e487d5d505ce4ced31a59c7971839e10a021", func := "loop.example/g00915/laws.FnExactPlaneWave", spec := "fnExactPlaneWave", apart := false }
def FnExactPlaneWaveSaid : Prop := fnExactPlaneWaveRow.holds Try.pinned (OpenSpec.ofChange fnExactPlaneWaveSpec)

/-- ITS FALSE NEIGHBOUR: 'it returns false'. Refute it at one input. -/
def fnExactPlaneWaveWrong : ChangeSpec := { name := "fnExactPlaneWave", fn := fun _ => fun
  | [d1, d2, d3, d4, d5, d6, d7] => { results := [.lit (.bool false)], args := [d1, d2, d3, d4, d5, d6, d7] }
  | _ => none }
def FnExactPlaneWaveWrongFalsely : Prop := fnExactPlaneWaveRow.holds Try.pinned (OpenSpec.ofChange fnExactPlaneWaveWrong)

/-- 'laws.FnDelays': WHATEVER THE INPUT: true; the input reads as it did. -/
def fnDelaysSpec : ChangeSpec := { name := "fnDelays", fn := fun _ => fun
  | [d] => { results := [.lit (.bool true)], args := [d] }
  | _ => none }
def fnDelaysRow : OpenClaim := { program := "ytfmhbphbgdijpaa", sum := "9984735c902a381cb6af66751481e487d5d505ce4ced31a59c7971839e10a021", func := "loop.example/g00915/laws.FnDelays", spec := "fnDelays", apart := false }
def FnDelaysSaid : Prop := fnDelaysRow.holds Try.pinned (OpenSpec.ofChange fnDelaysSpec)

/-- ITS FALSE NEIGHBOUR: 'it returns false'. Refute it at one input. -/
def fnDelaysWrong : ChangeSpec := { name := "fnDelays", fn := fun _ => fun
  | [d] => { results := [.lit (.bool false)], args := [d] }
  | _ => none }
def FnDelaysWrongFalsely : Prop := fnDelaysRow.holds Try.pinned (OpenSpec.ofChange fnDelaysWrong)

/-- 'laws.FnExactBestBeam': WHATEVER THE INPUT: true; the input reads as it did. -/
def fnExactBestBeamSpec : ChangeSpec := { name := "fnExactBestBeam", fn := fun _ => fun
  | [d1, d2, d3, d4, d5] => { results := [.lit (.bool true)], args := [d1, d2, d3, d4, d5] }
  | _ => none }
def fnExactBestBeamRow : OpenClaim := { program := "ytfmhbphbgdijpaa", sum := "9984735c902a381cb6af66751481e487d5d505ce4ced31a59c7971839e10a021", func := "loop.example/g00915/laws.FnExactBestBeam", spec := "fnExactBestBeam", unfollowed := true, recurses := true, apart := false }
def FnExactBestBeamSaid : Prop := fnExactBestBeamRow.holds Try.pinned (OpenSpec.ofChange fnExactBestBeamSpec)

/-- ITS FALSE NEIGHBOUR: 'it returns false'. Refute it at one input. -/
def fnExactBestBeamWrong : ChangeSpec := { name := "fnExactBestBeam", fn := fun _ => fun
  | [d1, d2, d3, d4, d5] => { results := [.lit (.bool false)], args := [d1, d2, d3, d4, d5] }
  | _ => none }
def FnExactBestBeamWrongFalsely : Prop := fnExactBestBeamRow.holds Try.pinned (OpenSpec.ofChange fnExactBestBeamWrong)

/-- 'laws.FnPlaneWaves': WHATEVER THE INPUT: true; the input reads as it did. -/
def fnPlaneWavesSpec : ChangeSpec := { name := "fnPlaneWaves", fn := fun _ => fun
  | [d] => { results := [.lit (.bool true)], args := [d] }
  | _ => none }
def fnPlaneWavesRow : OpenClaim := { program := "ytfmhbphbgdijpaa", sum := "9984735c902a381cb6af66751481e487d5d505ce4ced31a59c7971839e10a021", func := "loop.example/g00915/laws.FnPlaneWaves", spec := "fnPlaneWaves", apart := false }
def FnPlaneWavesSaid : Prop := fnPlaneWavesRow.holds Try.pinned (OpenSpec.ofChange fnPlaneWavesSpec)

/-- ITS FALSE NEIGHBOUR: 'it returns false'. Refute it at one input. -/
def fnPlaneWavesWrong : ChangeSpec := { name := "fnPlaneWaves", fn := fun _ => fun
  | [d] => { results := [.lit (.bool false)], args := [d] }
  | _ => none }
def FnPlaneWavesWrongFalsely : Prop := fnPlaneWavesRow.holds Try.pinned (OpenSpec.ofChange fnPlaneWavesWrong)

/- THE SECOND FORM. 'bulk': how many values and letters a reading holds, each counted each time it is reached (what is shared counts as often as it is met; a slice's spare places count too). A statement '..UptoSaid' is the law's where the arguments, and the package variables that the reading takes, are together of bulk at most 1048576: NARROWER than '..Said'. Prove '..Said' where nothing that the law and all that it calls make is longer than what came in: it says more and counts as full. Else prove '..UptoSaid'. A law counts once. -/
mutual
def uptoBulk {H : Type} : DataW H → Nat
  | .lit (.string bytes) => bytes.length + 1
  | .lit _ => 1
  | .nil => 1
  | .ptr d => uptoBulk d + 1
  | .slice elems spare => uptoBulkAll elems + uptoBulkAll spare + 1
  | .agg parts => uptoBulkAll parts + 1
  | .iface _ d => uptoBulk d + 1
  | .map entries => uptoBulkEntries entries + 1
  | .held _ => 1
def uptoBulkAll {H : Type} : List (DataW H) → Nat
  | [] => 0
  | d :: r => uptoBulk d + uptoBulkAll r
def uptoBulkEntries {H : Type} : List (Lit × DataW H) → Nat
  | [] => 0
  | x :: r => uptoBulkEntry x + uptoBulkEntries r
def uptoBulkEntry {H : Type} : Lit × DataW H → Nat
  | (.string bytes, d) => bytes.length + uptoBulk d + 1
  | (_, d) => uptoBulk d + 1
 end
def uptoSmall : (H : Type) → List (DataW H) → Bool := fun _ ds => decide (uptoBulkAll ds ≤ 1048576)
def OpenSpec.upto (s : _root_.Go.ChangeSpec) : _root_.Go.OpenSpec := { _root_.Go.OpenSpec.ofChange s with cond := some uptoSmall }

/-- 'laws.FnExactIsArray', WHERE WHAT IT READS IS OF BULK AT MOST 1048576: true; the input reads as it did. -/
def fnExactIsArrayUptoRow : OpenClaim := { program := "ytfmhbphbgdijpaa", sum := "9984735c902a381cb6af66751481e487d5d505ce4ced31a59c7971839e10a021", func := "loop.example/g00915/laws.FnExactIsArray", spec := "fnExactIsArray", apart := false, narrowed := true }
def FnExactIsArrayUptoSaid : Prop := fnExactIsArrayUptoRow.holds Try.pinned (OpenSpec.upto fnExactIsArraySpec)

/-- 'laws.FnBeams', WHERE WHAT IT READS IS OF BULK AT MOST 1048576: true; the input reads as it did. -/
def fnBeamsUptoRow : OpenClaim := { program := "ytfmhbphbgdijpaa", sum := "9984735c902a381cb6af66751481e487d5d505ce4ced31a59c7971839e10a021", func := "loop.example/g00915/laws.FnBeams", spec := "fnBeams", unfollowed := true, recurses := true, apart := false, narrowed := true }
def FnBeamsUptoSaid : Prop := fnBeamsUptoRow.holds Try.pinned (OpenSpec.upto fnBeamsSpec)

/-- 'laws.FnExactAreChannels', WHERE WHAT IT READS IS OF BULK AT MOST 1048576: true; the input reads as it did. -/
def fnExactAreChannelsUptoRow : OpenClaim := { program := "ytfmhbphbgdijpaa", sum := "9984735c902a381cb6af66751481e487d5d505ce4ced31a59c7971839e10a021", func := "loop.example/g00915/laws.FnExactAreChannels", spec := "fnExactAreChannels", apart := false, narrowed := true }
def FnExactAreChannelsUptoSaid : Prop := fnExactAreChannelsUptoRow.holds Try.pinned (OpenSpec.upto fnExactAreChannelsSpec)

/-- 'laws.FnExactBeamPower', WHERE WHAT IT READS IS OF BULK AT MOST 1048576: true; the input reads as it did. -/
def fnExactBeamPowerUptoRow : OpenClaim := { program := "ytfmhbphbgdijpaa", sum := "9984735c902a381cb6af66751481e487d5d505ce4ced31a59c7971839e10a021", func := "loop.example/g00915/laws.FnExactBeamPower", spec := "fnExactBeamPower", apart := false, narrowed := true }
def FnExactBeamPowerUptoSaid : Prop := fnExactBeamPowerUptoRow.holds Try.pinned (OpenSpec.upto fnExactBeamPowerSpec)

/-- 'laws.FnExactBeamOf', WHERE WHAT IT READS IS OF BULK AT MOST 1048576: true; the input reads as it did. -/
def fnExactBeamOfUptoRow : OpenClaim := { program := "ytfmhbphbgdijpaa", sum := "9984735c902a381cb6af66751481e487d5d505ce4ced31a59c7971839e10a021", func := "loop.example/g00915/laws.FnExactBeamOf", spec := "fnExactBeamOf", apart := false, narrowed := true }
def FnExactBeamOfUptoSaid : Prop := fnExactBeamOfUptoRow.holds Try.pinned (OpenSpec.upto fnExactBeamOfSpec)

/-- 'laws.FnExactDelaysOf', WHERE WHAT IT READS IS OF BULK AT MOST 1048576: true; the input reads as it did. -/
def fnExactDelaysOfUptoRow : OpenClaim := { program := "ytfmhbphbgdijpaa", sum := "9984735c902a381cb6af66751481e487d5d505ce4ced31a59c7971839e10a021", func := "loop.example/g00915/laws.FnExactDelaysOf", spec := "fnExactDelaysOf", apart := false, narrowed := true }
def FnExactDelaysOfUptoSaid : Prop := fnExactDelaysOfUptoRow.holds Try.pinned (OpenSpec.upto fnExactDelaysOfSpec)

/-- 'laws.FnExactDelayErrors', WHERE WHAT IT READS IS OF BULK AT MOST 1048576: true; the input reads as it did. -/
def fnExactDelayErrorsUptoRow : OpenClaim := { program := "ytfmhbphbgdijpaa", sum := "9984735c902a381cb6af66751481e487d5d505ce4ced31a59c7971839e10a021", func := "loop.example/g00915/laws.FnExactDelayErrors", spec := "fnExactDelayErrors", apart := false, narrowed := true }
def FnExactDelayErrorsUptoSaid : Prop := fnExactDelayErrorsUptoRow.holds Try.pinned (OpenSpec.upto fnExactDelayErrorsSpec)

/-- 'laws.FnExactPlaneWave', WHERE WHAT IT READS IS OF BULK AT MOST 1048576: true; the input reads as it did. -/
def fnExactPlaneWaveUptoRow : OpenClaim := { program := "ytfmhbphbgdijpaa", sum := "9984735c902a381cb6af66751481e487d5d505ce4ced31a59c7971839e10a021", func := "loop.example/g00915/laws.FnExactPlaneWave", spec := "fnExactPlaneWave", apart := false, narrowed := true }
def FnExactPlaneWaveUptoSaid : Prop := fnExactPlaneWaveUptoRow.holds Try.pinned (OpenSpec.upto fnExactPlaneWaveSpec)

/-- 'laws.FnDelays', WHERE WHAT IT READS IS OF BULK AT MOST 1048576: true; the input reads as it did. -/
def fnDelaysUptoRow : OpenClaim := { program := "ytfmhbphbgdijpaa", sum := "9984735c902a381cb6af66751481e487d5d505ce4ced31a59c7971839e10a021", func := "loop.example/g00915/laws.FnDelays", spec := "fnDelays", apart := false, narrowed := true }
def FnDelaysUptoSaid : Prop := fnDelaysUptoRow.holds Try.pinned (OpenSpec.upto fnDelaysSpec)

/-- 'laws.FnExactBestBeam', WHERE WHAT IT READS IS OF BULK AT MOST 1048576: true; the input reads as it did. -/
def fnExactBestBeamUptoRow : OpenClaim := { program := "ytfmhbphbgdijpaa", sum := "9984735c902a381cb6af66751481e487d5d505ce4ced31a59c7971839e10a021", func := "loop.example/g00915/laws.FnExactBestBeam", spec := "fnExactBestBeam", unfollowed := true, recurses := true, apart := false, narrowed := true }
def FnExactBestBeamUptoSaid : Prop := fnExactBestBeamUptoRow.holds Try.pinned (OpenSpec.upto fnExactBestBeamSpec)

/-- 'laws.FnPlaneWaves', WHERE WHAT IT READS IS OF BULK AT MOST 1048576: true; the input reads as it did. -/
def fnPlaneWavesUptoRow : OpenClaim := { program := "ytfmhbphbgdijpaa", sum := "9984735c902a381cb6af66751481e487d5d505ce4ced31a59c7971839e10a021", func := "loop.example/g00915/laws.FnPlaneWaves", spec := "fnPlaneWaves", apart := false, narrowed := true }
def FnPlaneWavesUptoSaid : Prop := fnPlaneWavesUptoRow.holds Try.pinned (OpenSpec.upto fnPlaneWavesSpec)

end Rows
end Go.Proofs.Ytfmhbphbgdijpaa
