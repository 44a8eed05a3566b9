/-
  No cell of these rows narrows 'for every input' (looked for: loops, veiled, ifaces, maps, wideKeys, modest, calm, conditions, laid).
  DERIVED. THE GIVEN ROWS OF THIS SEAT. 19 by the template 'for every input the law returns true; each argument reads behind the call as it read before'; 0 by the template 'total and deterministic' (their statements: YtoccglmlpobeeaaTotals.lean).
  GIVEN WITH THE SEED: the statements are not yours to turn. If you find one false, say at which input.
  Laid BY PROGRAM, IN A SANDBOX (cutbox-rows.mjs): the forced cells as the released guide's own fill.sh prints them over the translation 23b27779042de8c3… (all of the seat's roots in one cut). By AI agents, Wed Nov 11 2026. No macro, syntax, notation, axiom, sorry.
-/
import Derived.Test.YtoccglmlpobeeaaChecked
import GoSem.Claim
import GoSem.ClaimJoined
import GoSem.ClaimMapViews
import Derived.JoinedTies
import Derived.KernelRfl
namespace Go.Proofs.Ytoccglmlpobeeaa
/- THE CELL 'sum', in the pinned program and in every row, IS THE sha256 OF THE DUMP (.gsa) THAT YtoccglmlpobeeaaProg.lean LOADS. Nothing in Lean hashes anything: it is a label: what it is worth is what the hold of that sum in a sandbox is worth. -/
noncomputable def Try.pinned : Pinned := { name := "ytoccglmlpobeeaa", sum := "23b27779042de8c3e9b1882d50a4165158f615532c9e4be74643ca5a18c022a0", checked := Try.checked }
namespace Rows
def none {H : Type} : Left H := { results := [], args := [] }

/-- 'laws.FnExactIsBearing': WHATEVER THE INPUT: true; the input reads as it did. -/
def fnExactIsBearingSpec : ChangeSpec := { name := "fnExactIsBearing", fn := fun _ => fun
  | [d] => { results := [.lit (.bool true)], args := [d] }
  | _ => none }
def fnExactIsBearingRow : OpenClaim := { program := "ytoccglmlpobeeaa", sum := "23b27779042de8c3e9b1882d50a4165158f615532c9e4be74643ca5a18c022a0", func := "loop.example/g00915/laws.FnExactIsBearing", spec := "fnExactIsBearing", apart := false }
def FnExactIsBearingSaid : Prop := fnExactIsBearingRow.holds Try.pinned (OpenSpec.ofChange fnExactIsBearingSpec)

/-- ITS FALSE NEIGHBOUR: 'it returns false'. Refute it at one input. -/
def fnExactIsBearingWrong : ChangeSpec := { name := "fnExactIsBearing", fn := fun _ => fun
  | [d] => { results := [.lit (.bool false)], args := [d] }
  | _ => none }
def FnExactIsBearingWrongFalsely : Prop := fnExactIsBearingRow.holds Try.pinned (OpenSpec.ofChange fnExactIsBearingWrong)

/-- 'laws.FnExactIsMotion': WHATEVER THE INPUT: true; the input reads as it did. -/
def fnExactIsMotionSpec : ChangeSpec := { name := "fnExactIsMotion", fn := fun _ => fun
  | [d] => { results := [.lit (.bool true)], args := [d] }
  | _ => none }
def fnExactIsMotionRow : OpenClaim := { program := "ytoccglmlpobeeaa", sum := "23b27779042de8c3e9b1882d50a4165158f615532c9e4be74643ca5a18c022a0", func := "loop.example/g00915/laws.FnExactIsMotion", spec := "fnExactIsMotion", apart := false }
def FnExactIsMotionSaid : Prop := fnExactIsMotionRow.holds Try.pinned (OpenSpec.ofChange fnExactIsMotionSpec)

/-- ITS FALSE NEIGHBOUR: 'it returns false'. Refute it at one input. -/
def fnExactIsMotionWrong : ChangeSpec := { name := "fnExactIsMotion", fn := fun _ => fun
  | [d] => { results := [.lit (.bool false)], args := [d] }
  | _ => none }
def FnExactIsMotionWrongFalsely : Prop := fnExactIsMotionRow.holds Try.pinned (OpenSpec.ofChange fnExactIsMotionWrong)

/-- 'laws.FnExactGatesMeet': WHATEVER THE INPUT: true; the input reads as it did. -/
def fnExactGatesMeetSpec : ChangeSpec := { name := "fnExactGatesMeet", fn := fun _ => fun
  | [d1, d2] => { results := [.lit (.bool true)], args := [d1, d2] }
  | _ => none }
def fnExactGatesMeetRow : OpenClaim := { program := "ytoccglmlpobeeaa", sum := "23b27779042de8c3e9b1882d50a4165158f615532c9e4be74643ca5a18c022a0", func := "loop.example/g00915/laws.FnExactGatesMeet", spec := "fnExactGatesMeet", apart := false }
def FnExactGatesMeetSaid : Prop := fnExactGatesMeetRow.holds Try.pinned (OpenSpec.ofChange fnExactGatesMeetSpec)

/-- ITS FALSE NEIGHBOUR: 'it returns false'. Refute it at one input. -/
def fnExactGatesMeetWrong : ChangeSpec := { name := "fnExactGatesMeet", fn := fun _ => fun
  | [d1, d2] => { results := [.lit (.bool false)], args := [d1, d2] }
  | _ => none }
def FnExactGatesMeetWrongFalsely : Prop := fnExactGatesMeetRow.holds Try.pinned (OpenSpec.ofChange fnExactGatesMeetWrong)

/-- 'laws.FnExactGateCost': WHATEVER THE INPUT: true; the input reads as it did. -/
def fnExactGateCostSpec : ChangeSpec := { name := "fnExactGateCost", fn := fun _ => fun
  | [d1, d2] => { results := [.lit (.bool true)], args := [d1, d2] }
  | _ => none }
def fnExactGateCostRow : OpenClaim := { program := "ytoccglmlpobeeaa", sum := "23b27779042de8c3e9b1882d50a4165158f615532c9e4be74643ca5a18c022a0", func := "loop.example/g00915/laws.FnExactGateCost", spec := "fnExactGateCost", apart := false }
def FnExactGateCostSaid : Prop := fnExactGateCostRow.holds Try.pinned (OpenSpec.ofChange fnExactGateCostSpec)

/-- ITS FALSE NEIGHBOUR: 'it returns false'. Refute it at one input. -/
def fnExactGateCostWrong : ChangeSpec := { name := "fnExactGateCost", fn := fun _ => fun
  | [d1, d2] => { results := [.lit (.bool false)], args := [d1, d2] }
  | _ => none }
def FnExactGateCostWrongFalsely : Prop := fnExactGateCostRow.holds Try.pinned (OpenSpec.ofChange fnExactGateCostWrong)

/-- 'laws.FnExactSideOf': WHATEVER THE INPUT: true; the input reads as it did. -/
def fnExactSideOfSpec : ChangeSpec := { name := "fnExactSideOf", fn := fun _ => fun
  | [d1, d2, d3] => { results := [.lit (.bool true)], args := [d1, d2, d3] }
  | _ => none }
def fnExactSideOfRow : OpenClaim := { program := "ytoccglmlpobeeaa", sum := "23b27779042de8c3e9b1882d50a4165158f615532c9e4be74643ca5a18c022a0", func := "loop.example/g00915/laws.FnExactSideOf", spec := "fnExactSideOf", apart := false }
def FnExactSideOfSaid : Prop := fnExactSideOfRow.holds Try.pinned (OpenSpec.ofChange fnExactSideOfSpec)

/-- ITS FALSE NEIGHBOUR: 'it returns false'. Refute it at one input. -/
def fnExactSideOfWrong : ChangeSpec := { name := "fnExactSideOf", fn := fun _ => fun
  | [d1, d2, d3] => { results := [.lit (.bool false)], args := [d1, d2, d3] }
  | _ => none }
def FnExactSideOfWrongFalsely : Prop := fnExactSideOfRow.holds Try.pinned (OpenSpec.ofChange fnExactSideOfWrong)

/-- 'laws.FnExactInGate': WHATEVER THE INPUT: true; the input reads as it did. -/
def fnExactInGateSpec : ChangeSpec := { name := "fnExactInGate", fn := fun _ => fun
  | [d1, d2] => { results := [.lit (.bool true)], args := [d1, d2] }
  | _ => none }
def fnExactInGateRow : OpenClaim := { program := "ytoccglmlpobeeaa", sum := "23b27779042de8c3e9b1882d50a4165158f615532c9e4be74643ca5a18c022a0", func := "loop.example/g00915/laws.FnExactInGate", spec := "fnExactInGate", apart := false }
def FnExactInGateSaid : Prop := fnExactInGateRow.holds Try.pinned (OpenSpec.ofChange fnExactInGateSpec)

/-- ITS FALSE NEIGHBOUR: 'it returns false'. Refute it at one input. -/
def fnExactInGateWrong : ChangeSpec := { name := "fnExactInGate", fn := fun _ => fun
  | [d1, d2] => { results := [.lit (.bool false)], args := [d1, d2] }
  | _ => none }
def FnExactInGateWrongFalsely : Prop := fnExactInGateRow.holds Try.pinned (OpenSpec.ofChange fnExactInGateWrong)

/-- 'laws.FnExactCompareBearings': WHATEVER THE INPUT: true; the input reads as it did. -/
def fnExactCompareBearingsSpec : ChangeSpec := { name := "fnExactCompareBearings", fn := fun _ => fun
  | [d1, d2] => { results := [.lit (.bool true)], args := [d1, d2] }
  | _ => none }
def fnExactCompareBearingsRow : OpenClaim := { program := "ytoccglmlpobeeaa", sum := "23b27779042de8c3e9b1882d50a4165158f615532c9e4be74643ca5a18c022a0", func := "loop.example/g00915/laws.FnExactCompareBearings", spec := "fnExactCompareBearings", apart := false }
def FnExactCompareBearingsSaid : Prop := fnExactCompareBearingsRow.holds Try.pinned (OpenSpec.ofChange fnExactCompareBearingsSpec)

/-- ITS FALSE NEIGHBOUR: 'it returns false'. Refute it at one input. -/
def fnExactCompareBearingsWrong : ChangeSpec := { name := "fnExactCompareBearings", fn := fun _ => fun
  | [d1, d2] => { results := [.lit (.bool false)], args := [d1, d2] }
  | _ => none }
def FnExactCompareBearingsWrongFalsely : Prop := fnExactCompareBearingsRow.holds Try.pinned (OpenSpec.ofChange fnExactCompareBearingsWrong)

/-- 'laws.FnExactDoMeet': WHATEVER THE INPUT: true; the input reads as it did. -/
def fnExactDoMeetSpec : ChangeSpec := { name := "fnExactDoMeet", fn := fun _ => fun
  | [d1, d2] => { results := [.lit (.bool true)], args := [d1, d2] }
  | _ => none }
def fnExactDoMeetRow : OpenClaim := { program := "ytoccglmlpobeeaa", sum := "23b27779042de8c3e9b1882d50a4165158f615532c9e4be74643ca5a18c022a0", func := "loop.example/g00915/laws.FnExactDoMeet", spec := "fnExactDoMeet", apart := false }
def FnExactDoMeetSaid : Prop := fnExactDoMeetRow.holds Try.pinned (OpenSpec.ofChange fnExactDoMeetSpec)

/-- ITS FALSE NEIGHBOUR: 'it returns false'. Refute it at one input. -/
def fnExactDoMeetWrong : ChangeSpec := { name := "fnExactDoMeet", fn := fun _ => fun
  | [d1, d2] => { results := [.lit (.bool false)], args := [d1, d2] }
  | _ => none }
def FnExactDoMeetWrongFalsely : Prop := fnExactDoMeetRow.holds Try.pinned (OpenSpec.ofChange fnExactDoMeetWrong)

/-- 'laws.FnExactPositionAt': WHATEVER THE INPUT: true; the input reads as it did. -/
def fnExactPositionAtSpec : ChangeSpec := { name := "fnExactPositionAt", fn := fun _ => fun
  | [d1, d2] => { results := [.lit (.bool true)], args := [d1, d2] }
  | _ => none }
def fnExactPositionAtRow : OpenClaim := { program := "ytoccglmlpobeeaa", sum := "23b27779042de8c3e9b1882d50a4165158f615532c9e4be74643ca5a18c022a0", func := "loop.example/g00915/laws.FnExactPositionAt", spec := "fnExactPositionAt", apart := false }
def FnExactPositionAtSaid : Prop := fnExactPositionAtRow.holds Try.pinned (OpenSpec.ofChange fnExactPositionAtSpec)

/-- ITS FALSE NEIGHBOUR: 'it returns false'. Refute it at one input. -/
def fnExactPositionAtWrong : ChangeSpec := { name := "fnExactPositionAt", fn := fun _ => fun
  | [d1, d2] => { results := [.lit (.bool false)], args := [d1, d2] }
  | _ => none }
def FnExactPositionAtWrongFalsely : Prop := fnExactPositionAtRow.holds Try.pinned (OpenSpec.ofChange fnExactPositionAtWrong)

/-- 'laws.FnExactBearingDrift': WHATEVER THE INPUT: true; the input reads as it did. -/
def fnExactBearingDriftSpec : ChangeSpec := { name := "fnExactBearingDrift", fn := fun _ => fun
  | [d1, d2, d3] => { results := [.lit (.bool true)], args := [d1, d2, d3] }
  | _ => none }
def fnExactBearingDriftRow : OpenClaim := { program := "ytoccglmlpobeeaa", sum := "23b27779042de8c3e9b1882d50a4165158f615532c9e4be74643ca5a18c022a0", func := "loop.example/g00915/laws.FnExactBearingDrift", spec := "fnExactBearingDrift", apart := false }
def FnExactBearingDriftSaid : Prop := fnExactBearingDriftRow.holds Try.pinned (OpenSpec.ofChange fnExactBearingDriftSpec)

/-- ITS FALSE NEIGHBOUR: 'it returns false'. Refute it at one input. -/
def fnExactBearingDriftWrong : ChangeSpec := { name := "fnExactBearingDrift", fn := fun _ => fun
  | [d1, d2, d3] => { results := [.lit (.bool false)], args := [d1, d2, d3] }
  | _ => none }
def FnExactBearingDriftWrongFalsely : Prop := fnExactBearingDriftRow.holds Try.pinned (OpenSpec.ofChange fnExactBearingDriftWrong)

/-- 'laws.FnExactMoveOn': WHATEVER THE INPUT: true; the input reads as it did. -/
def fnExactMoveOnSpec : ChangeSpec := { name := "fnExactMoveOn", fn := fun _ => fun
  | [d1, d2] => { results := [.lit (.bool true)], args := [d1, d2] }
  | _ => none }
def fnExactMoveOnRow : OpenClaim := { program := "ytoccglmlpobeeaa", sum := "23b27779042de8c3e9b1882d50a4165158f615532c9e4be74643ca5a18c022a0", func := "loop.example/g00915/laws.FnExactMoveOn", spec := "fnExactMoveOn", apart := false }
def FnExactMoveOnSaid : Prop := fnExactMoveOnRow.holds Try.pinned (OpenSpec.ofChange fnExactMoveOnSpec)

/-- ITS FALSE NEIGHBOUR: 'it returns false'. Refute it at one input. -/
def fnExactMoveOnWrong : ChangeSpec := { name := "fnExactMoveOn", fn := fun _ => fun
  | [d1, d2] => { results := [.lit (.bool false)], args := [d1, d2] }
  | _ => none }
def FnExactMoveOnWrongFalsely : Prop := fnExactMoveOnRow.holds Try.pinned (OpenSpec.ofChange fnExactMoveOnWrong)

/-- 'laws.FnExactAreContacts': WHATEVER THE INPUT: true; the input reads as it did. -/
def fnExactAreContactsSpec : ChangeSpec := { name := "fnExactAreContacts", fn := fun _ => fun
  | [d] => { results := [.lit (.bool true)], args := [d] }
  | _ => none }
def fnExactAreContactsRow : OpenClaim := { program := "ytoccglmlpobeeaa", sum := "23b27779042de8c3e9b1882d50a4165158f615532c9e4be74643ca5a18c022a0", func := "loop.example/g00915/laws.FnExactAreContacts", spec := "fnExactAreContacts", unfollowed := true, recurses := true, apart := false }
def FnExactAreContactsSaid : Prop := fnExactAreContactsRow.holds Try.pinned (OpenSpec.ofChange fnExactAreContactsSpec)

/-- ITS FALSE NEIGHBOUR: 'it returns false'. Refute it at one input. -/
def fnExactAreContactsWrong : ChangeSpec := { name := "fnExactAreContacts", fn := fun _ => fun
  | [d] => { results := [.lit (.bool false)], args := [d] }
  | _ => none }
def FnExactAreContactsWrongFalsely : Prop := fnExactAreContactsRow.holds Try.pinned (OpenSpec.ofChange fnExactAreContactsWrong)

/-- 'laws.FnExactClosestTime': WHATEVER THE INPUT: true; the input reads as it did. -/
def fnExactClosestTimeSpec : ChangeSpec := { name := "fnExactClosestTime", fn := fun _ => fun
  | [d1, d2] => { results := [.lit (.bool true)], args := [d1, d2] }
  | _ => none }
def fnExactClosestTimeRow : OpenClaim := { program := "ytoccglmlpobeeaa", sum := "23b27779042de8c3e9b1882d50a4165158f615532c9e4be74643ca5a18c022a0", func := "loop.example/g00915/laws.FnExactClosestTime", spec := "fnExactClosestTime", apart := false }
def FnExactClosestTimeSaid : Prop := fnExactClosestTimeRow.holds Try.pinned (OpenSpec.ofChange fnExactClosestTimeSpec)

/-- ITS FALSE NEIGHBOUR: 'it returns false'. Refute it at one input. -/
def fnExactClosestTimeWrong : ChangeSpec := { name := "fnExactClosestTime", fn := fun _ => fun
  | [d1, d2] => { results := [.lit (.bool false)], args := [d1, d2] }
  | _ => none }
def FnExactClosestTimeWrongFalsely : Prop := fnExactClosestTimeRow.holds Try.pinned (OpenSpec.ofChange fnExactClosestTimeWrong)

/-- 'laws.FnExactClosestSquare': WHATEVER THE INPUT: true; the input reads as it did. -/
def fnExactClosestSquareSpec : ChangeSpec := { name := "fnExactClosestSquare", fn := fun _ => fun
  | [d1, d2] => { results := [.lit (.bool true)], args := [d1, d2] }
  | _ => none }
def fnExactClosestSquareRow : OpenClaim := { program := "ytoccglmlpobeeaa", sum := "23b27779042de8c3e9b1882d50a4165158f615532c9e4be74643ca5a18c022a0", func := "loop.example/g00915/laws.FnExactClosestSquare", spec := "fnExactClosestSquare", apart := false }
def FnExactClosestSquareSaid : Prop := fnExactClosestSquareRow.holds Try.pinned (OpenSpec.ofChange fnExactClosestSquareSpec)

/-- ITS FALSE NEIGHBOUR: 'it returns false'. Refute it at one input. -/
def fnExactClosestSquareWrong : ChangeSpec := { name := "fnExactClosestSquare", fn := fun _ => fun
  | [d1, d2] => { results := [.lit (.bool false)], args := [d1, d2] }
  | _ => none }
def FnExactClosestSquareWrongFalsely : Prop := fnExactClosestSquareRow.holds Try.pinned (OpenSpec.ofChange fnExactClosestSquareWrong)

/-- 'laws.FnExactCrossFix': WHATEVER THE INPUT: true; the input reads as it did. -/
def fnExactCrossFixSpec : ChangeSpec := { name := "fnExactCrossFix", fn := fun _ => fun
  | [d1, d2, d3, d4] => { results := [.lit (.bool true)], args := [d1, d2, d3, d4] }
  | _ => none }
def fnExactCrossFixRow : OpenClaim := { program := "ytoccglmlpobeeaa", sum := "23b27779042de8c3e9b1882d50a4165158f615532c9e4be74643ca5a18c022a0", func := "loop.example/g00915/laws.FnExactCrossFix", spec := "fnExactCrossFix", apart := false }
def FnExactCrossFixSaid : Prop := fnExactCrossFixRow.holds Try.pinned (OpenSpec.ofChange fnExactCrossFixSpec)

/-- ITS FALSE NEIGHBOUR: 'it returns false'. Refute it at one input. -/
def fnExactCrossFixWrong : ChangeSpec := { name := "fnExactCrossFix", fn := fun _ => fun
  | [d1, d2, d3, d4] => { results := [.lit (.bool false)], args := [d1, d2, d3, d4] }
  | _ => none }
def FnExactCrossFixWrongFalsely : Prop := fnExactCrossFixRow.holds Try.pinned (OpenSpec.ofChange fnExactCrossFixWrong)

/-- 'laws.FnSides': WHATEVER THE INPUT: true; the input reads as it did. -/
def fnSidesSpec : ChangeSpec := { name := "fnSides", fn := fun _ => fun
  | [d] => { results := [.lit (.bool true)], args := [d] }
  | _ => none }
def fnSidesRow : OpenClaim := { program := "ytoccglmlpobeeaa", sum := "23b27779042de8c3e9b1882d50a4165158f615532c9e4be74643ca5a18c022a0", func := "loop.example/g00915/laws.FnSides", spec := "fnSides", apart := false }
def FnSidesSaid : Prop := fnSidesRow.holds Try.pinned (OpenSpec.ofChange fnSidesSpec)

/-- ITS FALSE NEIGHBOUR: 'it returns false'. Refute it at one input. -/
def fnSidesWrong : ChangeSpec := { name := "fnSides", fn := fun _ => fun
  | [d] => { results := [.lit (.bool false)], args := [d] }
  | _ => none }
def FnSidesWrongFalsely : Prop := fnSidesRow.holds Try.pinned (OpenSpec.ofChange fnSidesWrong)

/-- 'laws.FnTracks': WHATEVER THE INPUT: true; the input reads as it did. -/
def fnTracksSpec : ChangeSpec := { name := "fnTracks", fn := fun _ => fun
  | [d] => { results := [.lit (.bool true)], args := [d] }
  | _ => none }
def fnTracksRow : OpenClaim := { program := "ytoccglmlpobeeaa", sum := "23b27779042de8c3e9b1882d50a4165158f615532c9e4be74643ca5a18c022a0", func := "loop.example/g00915/laws.FnTracks", spec := "fnTracks", apart := false }
def FnTracksSaid : Prop := fnTracksRow.holds Try.pinned (OpenSpec.ofChange fnTracksSpec)

/-- ITS FALSE NEIGHBOUR: 'it returns false'. Refute it at one input. -/
def fnTracksWrong : ChangeSpec := { name := "fnTracks", fn := fun _ => fun
  | [d] => { results := [.lit (.bool false)], args := [d] }
  | _ => none }
def FnTracksWrongFalsely : Prop := fnTracksRow.holds Try.pinned (OpenSpec.ofChange fnTracksWrong)

/-- 'laws.FnFixes': WHATEVER THE INPUT: true; the input reads as it did. -/
def fnFixesSpec : ChangeSpec := { name := "fnFixes", fn := fun _ => fun
  | [d] => { results := [.lit (.bool true)], args := [d] }
  | _ => none }
def fnFixesRow : OpenClaim := { program := "ytoccglmlpobeeaa", sum := "23b27779042de8c3e9b1882d50a4165158f615532c9e4be74643ca5a18c022a0", func := "loop.example/g00915/laws.FnFixes", spec := "fnFixes", apart := false }
def FnFixesSaid : Prop := fnFixesRow.holds Try.pinned (OpenSpec.ofChange fnFixesSpec)

/-- ITS FALSE NEIGHBOUR: 'it returns false'. Refute it at one input. -/
def fnFixesWrong : ChangeSpec := { name := "fnFixes", fn := fun _ => fun
  | [d] => { results := [.lit (.bool false)], args := [d] }
  | _ => none }
def FnFixesWrongFalsely : Prop := fnFixesRow.holds Try.pinned (OpenSpec.ofChange fnFixesWrong)

/-- 'laws.FnMeetings': WHATEVER THE INPUT: true; the input reads as it did. -/
def fnMeetingsSpec : ChangeSpec := { name := "fnMeetings", fn := fun _ => fun
  | [d] => { results := [.lit (.bool true)], args := [d] }
  | _ => none }
def fnMeetingsRow : OpenClaim := { program := "ytoccglmlpobeeaa", sum := "23b27779042de8c3e9b1882d50a4165158f615532c9e4be74643ca5a18c022a0", func := "loop.example/g00915/laws.FnMeetings", spec := "fnMeetings", apart := false }
def FnMeetingsSaid : Prop := fnMeetingsRow.holds Try.pinned (OpenSpec.ofChange fnMeetingsSpec)

/-- ITS FALSE NEIGHBOUR: 'it returns false'. Refute it at one input. -/
def fnMeetingsWrong : ChangeSpec := { name := "fnMeetings", fn := fun _ => fun
  | [d] => { results := [.lit (.bool false)], args := [d] }
  | _ => none }
def FnMeetingsWrongFalsely : Prop := fnMeetingsRow.holds Try.pinned (OpenSpec.ofChange fnMeetingsWrong)

/- THE SECOND FORM. 'bulk': how many values and letters a reading holds, each counted each time it is reached (what is shared counts as often as it is met; a slice's spare places count too). A statement '..UptoSaid' is the law's where the arguments, and the package variables that the reading takes, are together of bulk at most 1048576: NARROWER than '..Said'. Prove '..Said' where nothing that the law and all that it calls make is longer than what came in: it says more and counts as full. Else prove '..UptoSaid'. A law counts once. -/
mutual
def uptoBulk {H : Type} : DataW H → Nat
  | .lit (.string bytes) => bytes.length + 1
  | .lit _ => 1
  | .nil => 1
  | .ptr d => uptoBulk d + 1
  | .slice elems spare => uptoBulkAll elems + uptoBulkAll spare + 1
  | .agg parts => uptoBulkAll parts + 1
  | .iface _ d => uptoBulk d + 1
  | .map entries => uptoBulkEntries entries + 1
  | .held _ => 1
def uptoBulkAll {H : Type} : List (DataW H) → Nat
  | [] => 0
  | d :: r => uptoBulk d + uptoBulkAll r
def uptoBulkEntries {H : Type} : List (Lit × DataW H) → Nat
  | [] => 0
  | x :: r => uptoBulkEntry x + uptoBulkEntries r
def uptoBulkEntry {H : Type} : Lit × DataW H → Nat
  | (.string bytes, d) => bytes.length + uptoBulk d + 1
  | (_, d) => uptoBulk d + 1
 end
def uptoSmall : (H : Type) → List (DataW H) → Bool := fun _ ds => decide (uptoBulkAll ds ≤ 1048576)
def OpenSpec.upto (s : _root_.Go.ChangeSpec) : _root_.Go.OpenSpec := { _root_.Go.OpenSpec.ofChange s with cond := some uptoSmall }

/-- 'laws.FnExactIsBearing', WHERE WHAT IT READS IS OF BULK AT MOST 1048576: true; the input reads as it did. -/
def fnExactIsBearingUptoRow : OpenClaim := { program := "ytoccglmlpobeeaa", sum := "23b27779042de8c3e9b1882d50a4165158f615532c9e4be74643ca5a18c022a0", func := "loop.example/g00915/laws.FnExactIsBearing", spec := "fnExactIsBearing", apart := false, narrowed := true }
def FnExactIsBearingUptoSaid : Prop := fnExactIsBearingUptoRow.holds Try.pinned (OpenSpec.upto fnExactIsBearingSpec)

/-- 'laws.FnExactIsMotion', WHERE WHAT IT READS IS OF BULK AT MOST 1048576: true; the input reads as it did. -/
def fnExactIsMotionUptoRow : OpenClaim := { program := "ytoccglmlpobeeaa", sum := "23b27779042de8c3e9b1882d50a4165158f615532c9e4be74643ca5a18c022a0", func := "loop.example/g00915/laws.FnExactIsMotion", spec := "fnExactIsMotion", apart := false, narrowed := true }
def FnExactIsMotionUptoSaid : Prop := fnExactIsMotionUptoRow.holds Try.pinned (OpenSpec.upto fnExactIsMotionSpec)

/-- 'laws.FnExactGatesMeet', WHERE WHAT IT READS IS OF BULK AT MOST 1048576: true; the input reads as it did. -/
def fnExactGatesMeetUptoRow : OpenClaim := { program := "ytoccglmlpobeeaa", sum := "23b27779042de8c3e9b1882d50a4165158f615532c9e4be74643ca5a18c022a0", func := "loop.example/g00915/laws.FnExactGatesMeet", spec := "fnExactGatesMeet", apart := false, narrowed := true }
def FnExactGatesMeetUptoSaid : Prop := fnExactGatesMeetUptoRow.holds Try.pinned (OpenSpec.upto fnExactGatesMeetSpec)

/-- 'laws.FnExactGateCost', WHERE WHAT IT READS IS OF BULK AT MOST 1048576: true; the input reads as it did. -/
def fnExactGateCostUptoRow : OpenClaim := { program := "ytoccglmlpobeeaa", sum := "23b27779042de8c3e9b1882d50a4165158f615532c9e4be74643ca5a18c022a0", func := "loop.example/g00915/laws.FnExactGateCost", spec := "fnExactGateCost", apart := false, narrowed := true }
def FnExactGateCostUptoSaid : Prop := fnExactGateCostUptoRow.holds Try.pinned (OpenSpec.upto fnExactGateCostSpec)

/-- 'laws.FnExactSideOf', WHERE WHAT IT READS IS OF BULK AT MOST 1048576: true; the input reads as it did. -/
def fnExactSideOfUptoRow : OpenClaim := { program := "ytoccglmlpobeeaa", sum := "23b27779042de8c3e9b1882d50a4165158f615532c9e4be74643ca5a18c022a0", func := "loop.example/g00915/laws.FnExactSideOf", spec := "fnExactSideOf", apart := false, narrowed := true }
def FnExactSideOfUptoSaid : Prop := fnExactSideOfUptoRow.holds Try.pinned (OpenSpec.upto fnExactSideOfSpec)

/-- 'laws.FnExactInGate', WHERE WHAT IT READS IS OF BULK AT MOST 1048576: true; the input reads as it did. -/
def fnExactInGateUptoRow : OpenClaim := { program := "ytoccglmlpobeeaa", sum := "23b27779042de8c3e9b1882d50a4165158f615532c9e4be74643ca5a18c022a0", func := "loop.example/g00915/laws.FnExactInGate", spec := "fnExactInGate", apart := false, narrowed := true }
def FnExactInGateUptoSaid : Prop := fnExactInGateUptoRow.holds Try.pinned (OpenSpec.upto fnExactInGateSpec)

/-- 'laws.FnExactCompareBearings', WHERE WHAT IT READS IS OF BULK AT MOST 1048576: true; the input reads as it did. -/
def fnExactCompareBearingsUptoRow : OpenClaim := { program := "ytoccglmlpobeeaa", sum := "23b27779042de8c3e9b1882d50a4165158f615532c9e4be74643ca5a18c022a0", func := "loop.example/g00915/laws.FnExactCompareBearings", spec := "fnExactCompareBearings", apart := false, narrowed := true }
def FnExactCompareBearingsUptoSaid : Prop := fnExactCompareBearingsUptoRow.holds Try.pinned (OpenSpec.upto fnExactCompareBearingsSpec)

/-- 'laws.FnExactDoMeet', WHERE WHAT IT READS IS OF BULK AT MOST 1048576: true; the input reads as it did. -/
def fnExactDoMeetUptoRow : OpenClaim := { program := "ytoccglmlpobeeaa", sum := "23b27779042de8c3e9b1882d50a4165158f615532c9e4be74643ca5a18c022a0", func := "loop.example/g00915/laws.FnExactDoMeet", spec := "fnExactDoMeet", apart := false, narrowed := true }
def FnExactDoMeetUptoSaid : Prop := fnExactDoMeetUptoRow.holds Try.pinned (OpenSpec.upto fnExactDoMeetSpec)

/-- 'laws.FnExactPositionAt', WHERE WHAT IT READS IS OF BULK AT MOST 1048576: true; the input reads as it did. -/
def fnExactPositionAtUptoRow : OpenClaim := { program := "ytoccglmlpobeeaa", sum := "23b27779042de8c3e9b1882d50a4165158f615532c9e4be74643ca5a18c022a0", func := "loop.example/g00915/laws.FnExactPositionAt", spec := "fnExactPositionAt", apart := false, narrowed := true }
def FnExactPositionAtUptoSaid : Prop := fnExactPositionAtUptoRow.holds Try.pinned (OpenSpec.upto fnExactPositionAtSpec)

/-- 'laws.FnExactBearingDrift', WHERE WHAT IT READS IS OF BULK AT MOST 1048576: true; the input reads as it did. -/
def fnExactBearingDriftUptoRow : OpenClaim := { program := "ytoccglmlpobeeaa", sum := "23b27779042de8c3e9b1882d50a4165158f615532c9e4be74643ca5a18c022a0", func := "loop.example/g00915/laws.FnExactBearingDrift", spec := "fnExactBearingDrift", apart := false, narrowed := true }
def FnExactBearingDriftUptoSaid : Prop := fnExactBearingDriftUptoRow.holds Try.pinned (OpenSpec.upto fnExactBearingDriftSpec)

/-- 'laws.FnExactMoveOn', WHERE WHAT IT READS IS OF BULK AT MOST 1048576: true; the input reads as it did. -/
def fnExactMoveOnUptoRow : OpenClaim := { program := "ytoccglmlpobeeaa", sum := "23b27779042de8c3e9b1882d50a4165158f615532c9e4be74643ca5a18c022a0", func := "loop.example/g00915/laws.FnExactMoveOn", spec := "fnExactMoveOn", apart := false, narrowed := true }
def FnExactMoveOnUptoSaid : Prop := fnExactMoveOnUptoRow.holds Try.pinned (OpenSpec.upto fnExactMoveOnSpec)

/-- 'laws.FnExactAreContacts', WHERE WHAT IT READS IS OF BULK AT MOST 1048576: true; the input reads as it did. -/
def fnExactAreContactsUptoRow : OpenClaim := { program := "ytoccglmlpobeeaa", sum := "23b27779042de8c3e9b1882d50a4165158f615532c9e4be74643ca5a18c022a0", func := "loop.example/g00915/laws.FnExactAreContacts", spec := "fnExactAreContacts", unfollowed := true, recurses := true, apart := false, narrowed := true }
def FnExactAreContactsUptoSaid : Prop := fnExactAreContactsUptoRow.holds Try.pinned (OpenSpec.upto fnExactAreContactsSpec)

/-- 'laws.FnExactClosestTime', WHERE WHAT IT READS IS OF BULK AT MOST 1048576: true; the input reads as it did. -/
def fnExactClosestTimeUptoRow : OpenClaim := { program := "ytoccglmlpobeeaa", sum := "23b27779042de8c3e9b1882d50a4165158f615532c9e4be74643ca5a18c022a0", func := "loop.example/g00915/laws.FnExactClosestTime", spec := "fnExactClosestTime", apart := false, narrowed := true }
def FnExactClosestTimeUptoSaid : Prop := fnExactClosestTimeUptoRow.holds Try.pinned (OpenSpec.upto fnExactClosestTimeSpec)

/-- 'laws.FnExactClosestSquare', WHERE WHAT IT READS IS OF BULK AT MOST 1048576: true; the input reads as it did. -/
def fnExactClosestSquareUptoRow : OpenClaim := { program := "ytoccglmlpobeeaa", sum := "23b27779042de8c3e9b1882d50a4165158f615532c9e4be74643ca5a18c022a0", func := "loop.example/g00915/laws.FnExactClosestSquare", spec := "fnExactClosestSquare", apart := false, narrowed := true }
def FnExactClosestSquareUptoSaid : Prop := fnExactClosestSquareUptoRow.holds Try.pinned (OpenSpec.upto fnExactClosestSquareSpec)

/-- 'laws.FnExactCrossFix', WHERE WHAT IT READS IS OF BULK AT MOST 1048576: true; the input reads as it did. -/
def fnExactCrossFixUptoRow : OpenClaim := { program := "ytoccglmlpobeeaa", sum := "23b27779042de8c3e9b1882d50a4165158f615532c9e4be74643ca5a18c022a0", func := "loop.example/g00915/laws.FnExactCrossFix", spec := "fnExactCrossFix", apart := false, narrowed := true }
def FnExactCrossFixUptoSaid : Prop := fnExactCrossFixUptoRow.holds Try.pinned (OpenSpec.upto fnExactCrossFixSpec)

/-- 'laws.FnSides', WHERE WHAT IT READS IS OF BULK AT MOST 1048576: true; the input reads as it did. -/
def fnSidesUptoRow : OpenClaim := { program := "ytoccglmlpobeeaa", sum := "23b27779042de8c3e9b1882d50a4165158f615532c9e4be74643ca5a18c022a0", func := "loop.example/g00915/laws.FnSides", spec := "fnSides", apart := false, narrowed := true }
def FnSidesUptoSaid : Prop := fnSidesUptoRow.holds Try.pinned (OpenSpec.upto fnSidesSpec)

/-- 'laws.FnTracks', WHERE WHAT IT READS IS OF BULK AT MOST 1048576: true; the input reads as it did. -/
def fnTracksUptoRow : OpenClaim := { program := "ytoccglmlpobeeaa", sum := "23b27779042de8c3e9b1882d50a4165158f615532c9e4be74643ca5a18c022a0", func := "loop.example/g00915/laws.FnTracks", spec := "fnTracks", apart := false, narrowed := true }
def FnTracksUptoSaid : Prop := fnTracksUptoRow.holds Try.pinned (OpenSpec.upto fnTracksSpec)

/-- 'laws.FnFixes', WHERE WHAT IT READS IS OF BULK AT MOST 1048576: true; the input reads as it did. -/
def fnFixesUptoRow : OpenClaim := { program := "ytoccglmlpobeeaa", sum := "23b27779042de8c3e9b1882d50a4165158f615532c9e4be74643ca5a18c022a0", func := "loop.example/g00915/laws.FnFixes", spec := "fnFixes", apart := false, narrowed := true }
def FnFixesUptoSaid : Prop := fnFixesUptoRow.holds Try.pinned (OpenSpec.upto fnFixesSpec)

/-- 'laws.FnMeetings', WHERE WHAT IT READS IS OF BULK AT MOST 1048576: true; the input reads as it did. -/
def fnMeetingsUptoRow : OpenClaim := { program := "ytoccglmlpobeeaa", sum := "23b27779042de8c3e9b1882d50a4165158f615532c9e4be74643ca5a18c022a0", func := "loop.example/g00915/laws.FnMeetings", spec := "fnMeetings", apart := false, narrowed := true }
def FnMeetingsUptoSaid : Prop := fnMeetingsUptoRow.holds Try.pinned (OpenSpec.upto fnMeetingsSpec)

end Rows
end Go.Proofs.Ytoccglmlpobeeaa
