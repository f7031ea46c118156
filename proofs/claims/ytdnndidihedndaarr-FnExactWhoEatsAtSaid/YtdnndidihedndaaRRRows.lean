/-
  No cell of these rows narrows 'for every input' (looked for: loops, veiled, ifaces, maps, wideKeys, modest, calm, conditions, laid).
  DERIVED. THE GIVEN ROWS OF THIS SEAT. 20 by the template 'for every input the law returns true; each argument reads behind the call as it read before'; 0 by the template 'total and deterministic' (their statements: YtdnndidihedndaaRRTotals.lean).
  GIVEN WITH THE SEED: the statements are not yours to turn. If you find one false, say at which input.
  Laid BY PROGRAM, IN A SANDBOX (cutbox-rows.mjs): the forced cells as the released guide's own fill.sh prints them over the translation 84da1b106350259b… (all of the seat's roots in one cut). By AI agents, Wed Nov 11 2026. No macro, syntax, notation, axiom, sorry.
-/
import Derived.Test.YtdnndidihedndaaRRChecked
import GoSem.Claim
import GoSem.ClaimJoined
import GoSem.ClaimMapViews
import Derived.JoinedTies
import Derived.KernelRfl
namespace Go.Proofs.YtdnndidihedndaaRR
/- THE CELL 'sum', in the pinned program and in every row, IS THE sha256 OF THE DUMP (.gsa) THAT YtdnndidihedndaaRRProg.lean LOADS. Nothing in Lean hashes anything: it is a label: what it is worth is what the hold of that sum in a sandbox is worth. -/
noncomputable def Try.pinned : Pinned := { name := "ytdnndidihedndaarr", sum := "84da1b106350259b8120bad8477c7d85efd8d902328e3143f356f8b3d5b11f5b", checked := Try.checked }
namespace Rows
def none {H : Type} : Left H := { results := [], args := [] }

/-- 'laws.FnExactGreatestReach': WHATEVER THE INPUT: true; the input reads as it did. -/
def fnExactGreatestReachSpec : ChangeSpec := { name := "fnExactGreatestReach", fn := fun _ => fun
  | [d1, d2, d3] => { results := [.lit (.bool true)], args := [d1, d2, d3] }
  | _ => none }
def fnExactGreatestReachRow : OpenClaim := { program := "ytdnndidihedndaarr", sum := "84da1b106350259b8120bad8477c7d85efd8d902328e3143f356f8b3d5b11f5b", func := "loop.example/g01345/laws.FnExactGreatestReach", spec := "fnExactGreatestReach", unfollowed := true, recurses := true, plainKeys := false, apart := false }
def FnExactGreatestReachSaid : Prop := fnExactGreatestReachRow.holds Try.pinned (OpenSpec.ofChange fnExactGreatestReachSpec)

/-- ITS FALSE NEIGHBOUR: 'it returns false'. Refute it at one input. -/
def fnExactGreatestReachWrong : ChangeSpec := { name := "fnExactGreatestReach", fn := fun _ => fun
  | [d1, d2, d3] => { results := [.lit (.bool false)], args := [d1, d2, d3] }
  | _ => none }
def FnExactGreatestReachWrongFalsely : Prop := fnExactGreatestReachRow.holds Try.pinned (OpenSpec.ofChange fnExactGreatestReachWrong)

/-- 'laws.FnExactWhoEatsAt': WHATEVER THE INPUT: true; the input reads as it did. -/
def fnExactWhoEatsAtSpec : ChangeSpec := { name := "fnExactWhoEatsAt", fn := fun _ => fun
  | [d1, d2, d3] => { results := [.lit (.bool true)], args := [d1, d2, d3] }
  | _ => none }
def fnExactWhoEatsAtRow : OpenClaim := { program := "ytdnndidihedndaarr", sum := "84da1b106350259b8120bad8477c7d85efd8d902328e3143f356f8b3d5b11f5b", func := "loop.example/g01345/laws.FnExactWhoEatsAt", spec := "fnExactWhoEatsAt", unfollowed := true, recurses := true, plainKeys := false, apart := false }
def FnExactWhoEatsAtSaid : Prop := fnExactWhoEatsAtRow.holds Try.pinned (OpenSpec.ofChange fnExactWhoEatsAtSpec)

/-- ITS FALSE NEIGHBOUR: 'it returns false'. Refute it at one input. -/
def fnExactWhoEatsAtWrong : ChangeSpec := { name := "fnExactWhoEatsAt", fn := fun _ => fun
  | [d1, d2, d3] => { results := [.lit (.bool false)], args := [d1, d2, d3] }
  | _ => none }
def FnExactWhoEatsAtWrongFalsely : Prop := fnExactWhoEatsAtRow.holds Try.pinned (OpenSpec.ofChange fnExactWhoEatsAtWrong)

/-- 'laws.FnExactUncoveredBy': WHATEVER THE INPUT: true; the input reads as it did. -/
def fnExactUncoveredBySpec : ChangeSpec := { name := "fnExactUncoveredBy", fn := fun _ => fun
  | [d1, d2] => { results := [.lit (.bool true)], args := [d1, d2] }
  | _ => none }
def fnExactUncoveredByRow : OpenClaim := { program := "ytdnndidihedndaarr", sum := "84da1b106350259b8120bad8477c7d85efd8d902328e3143f356f8b3d5b11f5b", func := "loop.example/g01345/laws.FnExactUncoveredBy", spec := "fnExactUncoveredBy", unfollowed := true, recurses := true, plainKeys := false, apart := false }
def FnExactUncoveredBySaid : Prop := fnExactUncoveredByRow.holds Try.pinned (OpenSpec.ofChange fnExactUncoveredBySpec)

/-- ITS FALSE NEIGHBOUR: 'it returns false'. Refute it at one input. -/
def fnExactUncoveredByWrong : ChangeSpec := { name := "fnExactUncoveredBy", fn := fun _ => fun
  | [d1, d2] => { results := [.lit (.bool false)], args := [d1, d2] }
  | _ => none }
def FnExactUncoveredByWrongFalsely : Prop := fnExactUncoveredByRow.holds Try.pinned (OpenSpec.ofChange fnExactUncoveredByWrong)

/-- 'laws.FnExactSharedCells': WHATEVER THE INPUT: true; the input reads as it did. -/
def fnExactSharedCellsSpec : ChangeSpec := { name := "fnExactSharedCells", fn := fun _ => fun
  | [d1, d2] => { results := [.lit (.bool true)], args := [d1, d2] }
  | _ => none }
def fnExactSharedCellsRow : OpenClaim := { program := "ytdnndidihedndaarr", sum := "84da1b106350259b8120bad8477c7d85efd8d902328e3143f356f8b3d5b11f5b", func := "loop.example/g01345/laws.FnExactSharedCells", spec := "fnExactSharedCells", unfollowed := true, recurses := true, plainKeys := false, apart := false }
def FnExactSharedCellsSaid : Prop := fnExactSharedCellsRow.holds Try.pinned (OpenSpec.ofChange fnExactSharedCellsSpec)

/-- ITS FALSE NEIGHBOUR: 'it returns false'. Refute it at one input. -/
def fnExactSharedCellsWrong : ChangeSpec := { name := "fnExactSharedCells", fn := fun _ => fun
  | [d1, d2] => { results := [.lit (.bool false)], args := [d1, d2] }
  | _ => none }
def FnExactSharedCellsWrongFalsely : Prop := fnExactSharedCellsRow.holds Try.pinned (OpenSpec.ofChange fnExactSharedCellsWrong)

/-- 'laws.FnExactJoinYards': WHATEVER THE INPUT: true; the input reads as it did. -/
def fnExactJoinYardsSpec : ChangeSpec := { name := "fnExactJoinYards", fn := fun _ => fun
  | [d] => { results := [.lit (.bool true)], args := [d] }
  | _ => none }
def fnExactJoinYardsRow : OpenClaim := { program := "ytdnndidihedndaarr", sum := "84da1b106350259b8120bad8477c7d85efd8d902328e3143f356f8b3d5b11f5b", func := "loop.example/g01345/laws.FnExactJoinYards", spec := "fnExactJoinYards", unfollowed := true, recurses := true, plainKeys := false, apart := false }
def FnExactJoinYardsSaid : Prop := fnExactJoinYardsRow.holds Try.pinned (OpenSpec.ofChange fnExactJoinYardsSpec)

/-- ITS FALSE NEIGHBOUR: 'it returns false'. Refute it at one input. -/
def fnExactJoinYardsWrong : ChangeSpec := { name := "fnExactJoinYards", fn := fun _ => fun
  | [d] => { results := [.lit (.bool false)], args := [d] }
  | _ => none }
def FnExactJoinYardsWrongFalsely : Prop := fnExactJoinYardsRow.holds Try.pinned (OpenSpec.ofChange fnExactJoinYardsWrong)

/-- 'laws.FnExactWeakSides': WHATEVER THE INPUT: true; the input reads as it did. -/
def fnExactWeakSidesSpec : ChangeSpec := { name := "fnExactWeakSides", fn := fun _ => fun
  | [d] => { results := [.lit (.bool true)], args := [d] }
  | _ => none }
def fnExactWeakSidesRow : OpenClaim := { program := "ytdnndidihedndaarr", sum := "84da1b106350259b8120bad8477c7d85efd8d902328e3143f356f8b3d5b11f5b", func := "loop.example/g01345/laws.FnExactWeakSides", spec := "fnExactWeakSides", unfollowed := true, recurses := true, plainKeys := false, apart := false }
def FnExactWeakSidesSaid : Prop := fnExactWeakSidesRow.holds Try.pinned (OpenSpec.ofChange fnExactWeakSidesSpec)

/-- ITS FALSE NEIGHBOUR: 'it returns false'. Refute it at one input. -/
def fnExactWeakSidesWrong : ChangeSpec := { name := "fnExactWeakSides", fn := fun _ => fun
  | [d] => { results := [.lit (.bool false)], args := [d] }
  | _ => none }
def FnExactWeakSidesWrongFalsely : Prop := fnExactWeakSidesRow.holds Try.pinned (OpenSpec.ofChange fnExactWeakSidesWrong)

/-- 'laws.FnExactBestGate': WHATEVER THE INPUT: true; the input reads as it did. -/
def fnExactBestGateSpec : ChangeSpec := { name := "fnExactBestGate", fn := fun _ => fun
  | [d1, d2, d3] => { results := [.lit (.bool true)], args := [d1, d2, d3] }
  | _ => none }
def fnExactBestGateRow : OpenClaim := { program := "ytdnndidihedndaarr", sum := "84da1b106350259b8120bad8477c7d85efd8d902328e3143f356f8b3d5b11f5b", func := "loop.example/g01345/laws.FnExactBestGate", spec := "fnExactBestGate", unfollowed := true, recurses := true, plainKeys := false, apart := false }
def FnExactBestGateSaid : Prop := fnExactBestGateRow.holds Try.pinned (OpenSpec.ofChange fnExactBestGateSpec)

/-- ITS FALSE NEIGHBOUR: 'it returns false'. Refute it at one input. -/
def fnExactBestGateWrong : ChangeSpec := { name := "fnExactBestGate", fn := fun _ => fun
  | [d1, d2, d3] => { results := [.lit (.bool false)], args := [d1, d2, d3] }
  | _ => none }
def FnExactBestGateWrongFalsely : Prop := fnExactBestGateRow.holds Try.pinned (OpenSpec.ofChange fnExactBestGateWrong)

/-- 'laws.FnExactCheckApart': WHATEVER THE INPUT: true; the input reads as it did. -/
def fnExactCheckApartSpec : ChangeSpec := { name := "fnExactCheckApart", fn := fun _ => fun
  | [d1, d2, d3] => { results := [.lit (.bool true)], args := [d1, d2, d3] }
  | _ => none }
def fnExactCheckApartRow : OpenClaim := { program := "ytdnndidihedndaarr", sum := "84da1b106350259b8120bad8477c7d85efd8d902328e3143f356f8b3d5b11f5b", func := "loop.example/g01345/laws.FnExactCheckApart", spec := "fnExactCheckApart", unfollowed := true, recurses := true, plainKeys := false, apart := false }
def FnExactCheckApartSaid : Prop := fnExactCheckApartRow.holds Try.pinned (OpenSpec.ofChange fnExactCheckApartSpec)

/-- ITS FALSE NEIGHBOUR: 'it returns false'. Refute it at one input. -/
def fnExactCheckApartWrong : ChangeSpec := { name := "fnExactCheckApart", fn := fun _ => fun
  | [d1, d2, d3] => { results := [.lit (.bool false)], args := [d1, d2, d3] }
  | _ => none }
def FnExactCheckApartWrongFalsely : Prop := fnExactCheckApartRow.holds Try.pinned (OpenSpec.ofChange fnExactCheckApartWrong)

/-- 'laws.FnExactCheckPart': WHATEVER THE INPUT: true; the input reads as it did. -/
def fnExactCheckPartSpec : ChangeSpec := { name := "fnExactCheckPart", fn := fun _ => fun
  | [d1, d2, d3, d4] => { results := [.lit (.bool true)], args := [d1, d2, d3, d4] }
  | _ => none }
def fnExactCheckPartRow : OpenClaim := { program := "ytdnndidihedndaarr", sum := "84da1b106350259b8120bad8477c7d85efd8d902328e3143f356f8b3d5b11f5b", func := "loop.example/g01345/laws.FnExactCheckPart", spec := "fnExactCheckPart", unfollowed := true, recurses := true, plainKeys := false, apart := false }
def FnExactCheckPartSaid : Prop := fnExactCheckPartRow.holds Try.pinned (OpenSpec.ofChange fnExactCheckPartSpec)

/-- ITS FALSE NEIGHBOUR: 'it returns false'. Refute it at one input. -/
def fnExactCheckPartWrong : ChangeSpec := { name := "fnExactCheckPart", fn := fun _ => fun
  | [d1, d2, d3, d4] => { results := [.lit (.bool false)], args := [d1, d2, d3, d4] }
  | _ => none }
def FnExactCheckPartWrongFalsely : Prop := fnExactCheckPartRow.holds Try.pinned (OpenSpec.ofChange fnExactCheckPartWrong)

/-- 'laws.FnExactCheckWays': WHATEVER THE INPUT: true; the input reads as it did. -/
def fnExactCheckWaysSpec : ChangeSpec := { name := "fnExactCheckWays", fn := fun _ => fun
  | [d1, d2, d3, d4] => { results := [.lit (.bool true)], args := [d1, d2, d3, d4] }
  | _ => none }
def fnExactCheckWaysRow : OpenClaim := { program := "ytdnndidihedndaarr", sum := "84da1b106350259b8120bad8477c7d85efd8d902328e3143f356f8b3d5b11f5b", func := "loop.example/g01345/laws.FnExactCheckWays", spec := "fnExactCheckWays", unfollowed := true, recurses := true, plainKeys := false, apart := false }
def FnExactCheckWaysSaid : Prop := fnExactCheckWaysRow.holds Try.pinned (OpenSpec.ofChange fnExactCheckWaysSpec)

/-- ITS FALSE NEIGHBOUR: 'it returns false'. Refute it at one input. -/
def fnExactCheckWaysWrong : ChangeSpec := { name := "fnExactCheckWays", fn := fun _ => fun
  | [d1, d2, d3, d4] => { results := [.lit (.bool false)], args := [d1, d2, d3, d4] }
  | _ => none }
def FnExactCheckWaysWrongFalsely : Prop := fnExactCheckWaysRow.holds Try.pinned (OpenSpec.ofChange fnExactCheckWaysWrong)

/-- 'laws.FnExactMeetingPairs': WHATEVER THE INPUT: true; the input reads as it did. -/
def fnExactMeetingPairsSpec : ChangeSpec := { name := "fnExactMeetingPairs", fn := fun _ => fun
  | [d1, d2] => { results := [.lit (.bool true)], args := [d1, d2] }
  | _ => none }
def fnExactMeetingPairsRow : OpenClaim := { program := "ytdnndidihedndaarr", sum := "84da1b106350259b8120bad8477c7d85efd8d902328e3143f356f8b3d5b11f5b", func := "loop.example/g01345/laws.FnExactMeetingPairs", spec := "fnExactMeetingPairs", unfollowed := true, recurses := true, plainKeys := false, apart := false }
def FnExactMeetingPairsSaid : Prop := fnExactMeetingPairsRow.holds Try.pinned (OpenSpec.ofChange fnExactMeetingPairsSpec)

/-- ITS FALSE NEIGHBOUR: 'it returns false'. Refute it at one input. -/
def fnExactMeetingPairsWrong : ChangeSpec := { name := "fnExactMeetingPairs", fn := fun _ => fun
  | [d1, d2] => { results := [.lit (.bool false)], args := [d1, d2] }
  | _ => none }
def FnExactMeetingPairsWrongFalsely : Prop := fnExactMeetingPairsRow.holds Try.pinned (OpenSpec.ofChange fnExactMeetingPairsWrong)

/-- 'laws.FnExactCanMeet': WHATEVER THE INPUT: true; the input reads as it did. -/
def fnExactCanMeetSpec : ChangeSpec := { name := "fnExactCanMeet", fn := fun _ => fun
  | [d1, d2] => { results := [.lit (.bool true)], args := [d1, d2] }
  | _ => none }
def fnExactCanMeetRow : OpenClaim := { program := "ytdnndidihedndaarr", sum := "84da1b106350259b8120bad8477c7d85efd8d902328e3143f356f8b3d5b11f5b", func := "loop.example/g01345/laws.FnExactCanMeet", spec := "fnExactCanMeet", unfollowed := true, recurses := true, plainKeys := false, apart := false }
def FnExactCanMeetSaid : Prop := fnExactCanMeetRow.holds Try.pinned (OpenSpec.ofChange fnExactCanMeetSpec)

/-- ITS FALSE NEIGHBOUR: 'it returns false'. Refute it at one input. -/
def fnExactCanMeetWrong : ChangeSpec := { name := "fnExactCanMeet", fn := fun _ => fun
  | [d1, d2] => { results := [.lit (.bool false)], args := [d1, d2] }
  | _ => none }
def FnExactCanMeetWrongFalsely : Prop := fnExactCanMeetRow.holds Try.pinned (OpenSpec.ofChange fnExactCanMeetWrong)

/-- 'laws.FnExactFeedGoat': WHATEVER THE INPUT: true; the input reads as it did. -/
def fnExactFeedGoatSpec : ChangeSpec := { name := "fnExactFeedGoat", fn := fun _ => fun
  | [d1, d2] => { results := [.lit (.bool true)], args := [d1, d2] }
  | _ => none }
def fnExactFeedGoatRow : OpenClaim := { program := "ytdnndidihedndaarr", sum := "84da1b106350259b8120bad8477c7d85efd8d902328e3143f356f8b3d5b11f5b", func := "loop.example/g01345/laws.FnExactFeedGoat", spec := "fnExactFeedGoat", unfollowed := true, recurses := true, plainKeys := false, apart := false }
def FnExactFeedGoatSaid : Prop := fnExactFeedGoatRow.holds Try.pinned (OpenSpec.ofChange fnExactFeedGoatSpec)

/-- ITS FALSE NEIGHBOUR: 'it returns false'. Refute it at one input. -/
def fnExactFeedGoatWrong : ChangeSpec := { name := "fnExactFeedGoat", fn := fun _ => fun
  | [d1, d2] => { results := [.lit (.bool false)], args := [d1, d2] }
  | _ => none }
def FnExactFeedGoatWrongFalsely : Prop := fnExactFeedGoatRow.holds Try.pinned (OpenSpec.ofChange fnExactFeedGoatWrong)

/-- 'laws.FnExactBiteOnce': WHATEVER THE INPUT: true; the input reads as it did. -/
def fnExactBiteOnceSpec : ChangeSpec := { name := "fnExactBiteOnce", fn := fun _ => fun
  | [d1, d2, d3] => { results := [.lit (.bool true)], args := [d1, d2, d3] }
  | _ => none }
def fnExactBiteOnceRow : OpenClaim := { program := "ytdnndidihedndaarr", sum := "84da1b106350259b8120bad8477c7d85efd8d902328e3143f356f8b3d5b11f5b", func := "loop.example/g01345/laws.FnExactBiteOnce", spec := "fnExactBiteOnce", unfollowed := true, recurses := true, plainKeys := false, apart := false }
def FnExactBiteOnceSaid : Prop := fnExactBiteOnceRow.holds Try.pinned (OpenSpec.ofChange fnExactBiteOnceSpec)

/-- ITS FALSE NEIGHBOUR: 'it returns false'. Refute it at one input. -/
def fnExactBiteOnceWrong : ChangeSpec := { name := "fnExactBiteOnce", fn := fun _ => fun
  | [d1, d2, d3] => { results := [.lit (.bool false)], args := [d1, d2, d3] }
  | _ => none }
def FnExactBiteOnceWrongFalsely : Prop := fnExactBiteOnceRow.holds Try.pinned (OpenSpec.ofChange fnExactBiteOnceWrong)

/-- 'laws.FnExactHungryGoats': WHATEVER THE INPUT: true; the input reads as it did. -/
def fnExactHungryGoatsSpec : ChangeSpec := { name := "fnExactHungryGoats", fn := fun _ => fun
  | [d1, d2] => { results := [.lit (.bool true)], args := [d1, d2] }
  | _ => none }
def fnExactHungryGoatsRow : OpenClaim := { program := "ytdnndidihedndaarr", sum := "84da1b106350259b8120bad8477c7d85efd8d902328e3143f356f8b3d5b11f5b", func := "loop.example/g01345/laws.FnExactHungryGoats", spec := "fnExactHungryGoats", unfollowed := true, recurses := true, plainKeys := false, apart := false }
def FnExactHungryGoatsSaid : Prop := fnExactHungryGoatsRow.holds Try.pinned (OpenSpec.ofChange fnExactHungryGoatsSpec)

/-- ITS FALSE NEIGHBOUR: 'it returns false'. Refute it at one input. -/
def fnExactHungryGoatsWrong : ChangeSpec := { name := "fnExactHungryGoats", fn := fun _ => fun
  | [d1, d2] => { results := [.lit (.bool false)], args := [d1, d2] }
  | _ => none }
def FnExactHungryGoatsWrongFalsely : Prop := fnExactHungryGoatsRow.holds Try.pinned (OpenSpec.ofChange fnExactHungryGoatsWrong)

/-- 'laws.FnExactFeedDays': WHATEVER THE INPUT: true; the input reads as it did. -/
def fnExactFeedDaysSpec : ChangeSpec := { name := "fnExactFeedDays", fn := fun _ => fun
  | [d1, d2, d3] => { results := [.lit (.bool true)], args := [d1, d2, d3] }
  | _ => none }
def fnExactFeedDaysRow : OpenClaim := { program := "ytdnndidihedndaarr", sum := "84da1b106350259b8120bad8477c7d85efd8d902328e3143f356f8b3d5b11f5b", func := "loop.example/g01345/laws.FnExactFeedDays", spec := "fnExactFeedDays", unfollowed := true, recurses := true, plainKeys := false, apart := false }
def FnExactFeedDaysSaid : Prop := fnExactFeedDaysRow.holds Try.pinned (OpenSpec.ofChange fnExactFeedDaysSpec)

/-- ITS FALSE NEIGHBOUR: 'it returns false'. Refute it at one input. -/
def fnExactFeedDaysWrong : ChangeSpec := { name := "fnExactFeedDays", fn := fun _ => fun
  | [d1, d2, d3] => { results := [.lit (.bool false)], args := [d1, d2, d3] }
  | _ => none }
def FnExactFeedDaysWrongFalsely : Prop := fnExactFeedDaysRow.holds Try.pinned (OpenSpec.ofChange fnExactFeedDaysWrong)

/-- 'laws.FnExactFeedByBites': WHATEVER THE INPUT: true; the input reads as it did. -/
def fnExactFeedByBitesSpec : ChangeSpec := { name := "fnExactFeedByBites", fn := fun _ => fun
  | [d1, d2] => { results := [.lit (.bool true)], args := [d1, d2] }
  | _ => none }
def fnExactFeedByBitesRow : OpenClaim := { program := "ytdnndidihedndaarr", sum := "84da1b106350259b8120bad8477c7d85efd8d902328e3143f356f8b3d5b11f5b", func := "loop.example/g01345/laws.FnExactFeedByBites", spec := "fnExactFeedByBites", unfollowed := true, recurses := true, plainKeys := false, apart := false }
def FnExactFeedByBitesSaid : Prop := fnExactFeedByBitesRow.holds Try.pinned (OpenSpec.ofChange fnExactFeedByBitesSpec)

/-- ITS FALSE NEIGHBOUR: 'it returns false'. Refute it at one input. -/
def fnExactFeedByBitesWrong : ChangeSpec := { name := "fnExactFeedByBites", fn := fun _ => fun
  | [d1, d2] => { results := [.lit (.bool false)], args := [d1, d2] }
  | _ => none }
def FnExactFeedByBitesWrongFalsely : Prop := fnExactFeedByBitesRow.holds Try.pinned (OpenSpec.ofChange fnExactFeedByBitesWrong)

/-- 'laws.FnExactFeedInTurn': WHATEVER THE INPUT: true; the input reads as it did. -/
def fnExactFeedInTurnSpec : ChangeSpec := { name := "fnExactFeedInTurn", fn := fun _ => fun
  | [d1, d2] => { results := [.lit (.bool true)], args := [d1, d2] }
  | _ => none }
def fnExactFeedInTurnRow : OpenClaim := { program := "ytdnndidihedndaarr", sum := "84da1b106350259b8120bad8477c7d85efd8d902328e3143f356f8b3d5b11f5b", func := "loop.example/g01345/laws.FnExactFeedInTurn", spec := "fnExactFeedInTurn", unfollowed := true, recurses := true, plainKeys := false, apart := false }
def FnExactFeedInTurnSaid : Prop := fnExactFeedInTurnRow.holds Try.pinned (OpenSpec.ofChange fnExactFeedInTurnSpec)

/-- ITS FALSE NEIGHBOUR: 'it returns false'. Refute it at one input. -/
def fnExactFeedInTurnWrong : ChangeSpec := { name := "fnExactFeedInTurn", fn := fun _ => fun
  | [d1, d2] => { results := [.lit (.bool false)], args := [d1, d2] }
  | _ => none }
def FnExactFeedInTurnWrongFalsely : Prop := fnExactFeedInTurnRow.holds Try.pinned (OpenSpec.ofChange fnExactFeedInTurnWrong)

/-- 'laws.FnExactDropIdle': WHATEVER THE INPUT: true; the input reads as it did. -/
def fnExactDropIdleSpec : ChangeSpec := { name := "fnExactDropIdle", fn := fun _ => fun
  | [d] => { results := [.lit (.bool true)], args := [d] }
  | _ => none }
def fnExactDropIdleRow : OpenClaim := { program := "ytdnndidihedndaarr", sum := "84da1b106350259b8120bad8477c7d85efd8d902328e3143f356f8b3d5b11f5b", func := "loop.example/g01345/laws.FnExactDropIdle", spec := "fnExactDropIdle", unfollowed := true, recurses := true, plainKeys := false, apart := false }
def FnExactDropIdleSaid : Prop := fnExactDropIdleRow.holds Try.pinned (OpenSpec.ofChange fnExactDropIdleSpec)

/-- ITS FALSE NEIGHBOUR: 'it returns false'. Refute it at one input. -/
def fnExactDropIdleWrong : ChangeSpec := { name := "fnExactDropIdle", fn := fun _ => fun
  | [d] => { results := [.lit (.bool false)], args := [d] }
  | _ => none }
def FnExactDropIdleWrongFalsely : Prop := fnExactDropIdleRow.holds Try.pinned (OpenSpec.ofChange fnExactDropIdleWrong)

/-- 'laws.FnRopes': WHATEVER THE INPUT: true; the input reads as it did. -/
def fnRopesSpec : ChangeSpec := { name := "fnRopes", fn := fun _ => fun
  | [d1, d2] => { results := [.lit (.bool true)], args := [d1, d2] }
  | _ => none }
def fnRopesRow : OpenClaim := { program := "ytdnndidihedndaarr", sum := "84da1b106350259b8120bad8477c7d85efd8d902328e3143f356f8b3d5b11f5b", func := "loop.example/g01345/laws.FnRopes", spec := "fnRopes", unfollowed := true, recurses := true, plainKeys := false, apart := false }
def FnRopesSaid : Prop := fnRopesRow.holds Try.pinned (OpenSpec.ofChange fnRopesSpec)

/-- ITS FALSE NEIGHBOUR: 'it returns false'. Refute it at one input. -/
def fnRopesWrong : ChangeSpec := { name := "fnRopes", fn := fun _ => fun
  | [d1, d2] => { results := [.lit (.bool false)], args := [d1, d2] }
  | _ => none }
def FnRopesWrongFalsely : Prop := fnRopesRow.holds Try.pinned (OpenSpec.ofChange fnRopesWrong)

/- THE SECOND FORM. 'bulk': how many values and letters a reading holds, each counted each time it is reached (what is shared counts as often as it is met; a slice's spare places count too). A statement '..UptoSaid' is the law's where the arguments, and the package variables that the reading takes, are together of bulk at most 1048576: NARROWER than '..Said'. Prove '..Said' where nothing that the law and all that it calls make is longer than what came in: it says more and counts as full. Else prove '..UptoSaid'. A law counts once. -/
mutual
def uptoBulk {H : Type} : DataW H → Nat
  | .lit (.string bytes) => bytes.length + 1
  | .lit _ => 1
  | .nil => 1
  | .ptr d => uptoBulk d + 1
  | .slice elems spare => uptoBulkAll elems + uptoBulkAll spare + 1
  | .agg parts => uptoBulkAll parts + 1
  | .iface _ d => uptoBulk d + 1
  | .map entries => uptoBulkEntries entries + 1
  | .held _ => 1
def uptoBulkAll {H : Type} : List (DataW H) → Nat
  | [] => 0
  | d :: r => uptoBulk d + uptoBulkAll r
def uptoBulkEntries {H : Type} : List (Lit × DataW H) → Nat
  | [] => 0
  | x :: r => uptoBulkEntry x + uptoBulkEntries r
def uptoBulkEntry {H : Type} : Lit × DataW H → Nat
  | (.string bytes, d) => bytes.length + uptoBulk d + 1
  | (_, d) => uptoBulk d + 1
 end
def uptoSmall : (H : Type) → List (DataW H) → Bool := fun _ ds => decide (uptoBulkAll ds ≤ 1048576)
def OpenSpec.upto (s : _root_.Go.ChangeSpec) : _root_.Go.OpenSpec := { _root_.Go.OpenSpec.ofChange s with cond := some uptoSmall }

/-- 'laws.FnExactGreatestReach', WHERE WHAT IT READS IS OF BULK AT MOST 1048576: true; the input reads as it did. -/
def fnExactGreatestReachUptoRow : OpenClaim := { program := "ytdnndidihedndaarr", sum := "84da1b106350259b8120bad8477c7d85efd8d902328e3143f356f8b3d5b11f5b", func := "loop.example/g01345/laws.FnExactGreatestReach", spec := "fnExactGreatestReach", unfollowed := true, recurses := true, plainKeys := false, apart := false, narrowed := true }
def FnExactGreatestReachUptoSaid : Prop := fnExactGreatestReachUptoRow.holds Try.pinned (OpenSpec.upto fnExactGreatestReachSpec)

/-- 'laws.FnExactWhoEatsAt', WHERE WHAT IT READS IS OF BULK AT MOST 1048576: true; the input reads as it did. -/
def fnExactWhoEatsAtUptoRow : OpenClaim := { program := "ytdnndidihedndaarr", sum := "84da1b106350259b8120bad8477c7d85efd8d902328e3143f356f8b3d5b11f5b", func := "loop.example/g01345/laws.FnExactWhoEatsAt", spec := "fnExactWhoEatsAt", unfollowed := true, recurses := true, plainKeys := false, apart := false, narrowed := true }
def FnExactWhoEatsAtUptoSaid : Prop := fnExactWhoEatsAtUptoRow.holds Try.pinned (OpenSpec.upto fnExactWhoEatsAtSpec)

/-- 'laws.FnExactUncoveredBy', WHERE WHAT IT READS IS OF BULK AT MOST 1048576: true; the input reads as it did. -/
def fnExactUncoveredByUptoRow : OpenClaim := { program := "ytdnndidihedndaarr", sum := "84da1b106350259b8120bad8477c7d85efd8d902328e3143f356f8b3d5b11f5b", func := "loop.example/g01345/laws.FnExactUncoveredBy", spec := "fnExactUncoveredBy", unfollowed := true, recurses := true, plainKeys := false, apart := false, narrowed := true }
def FnExactUncoveredByUptoSaid : Prop := fnExactUncoveredByUptoRow.holds Try.pinned (OpenSpec.upto fnExactUncoveredBySpec)

/-- 'laws.FnExactSharedCells', WHERE WHAT IT READS IS OF BULK AT MOST 1048576: true; the input reads as it did. -/
def fnExactSharedCellsUptoRow : OpenClaim := { program := "ytdnndidihedndaarr", sum := "84da1b106350259b8120bad8477c7d85efd8d902328e3143f356f8b3d5b11f5b", func := "loop.example/g01345/laws.FnExactSharedCells", spec := "fnExactSharedCells", unfollowed := true, recurses := true, plainKeys := false, apart := false, narrowed := true }
def FnExactSharedCellsUptoSaid : Prop := fnExactSharedCellsUptoRow.holds Try.pinned (OpenSpec.upto fnExactSharedCellsSpec)

/-- 'laws.FnExactJoinYards', WHERE WHAT IT READS IS OF BULK AT MOST 1048576: true; the input reads as it did. -/
def fnExactJoinYardsUptoRow : OpenClaim := { program := "ytdnndidihedndaarr", sum := "84da1b106350259b8120bad8477c7d85efd8d902328e3143f356f8b3d5b11f5b", func := "loop.example/g01345/laws.FnExactJoinYards", spec := "fnExactJoinYards", unfollowed := true, recurses := true, plainKeys := false, apart := false, narrowed := true }
def FnExactJoinYardsUptoSaid : Prop := fnExactJoinYardsUptoRow.holds Try.pinned (OpenSpec.upto fnExactJoinYardsSpec)

/-- 'laws.FnExactWeakSides', WHERE WHAT IT READS IS OF BULK AT MOST 1048576: true; the input reads as it did. -/
def fnExactWeakSidesUptoRow : OpenClaim := { program := "ytdnndidihedndaarr", sum := "84da1b106350259b8120bad8477c7d85efd8d902328e3143f356f8b3d5b11f5b", func := "loop.example/g01345/laws.FnExactWeakSides", spec := "fnExactWeakSides", unfollowed := true, recurses := true, plainKeys := false, apart := false, narrowed := true }
def FnExactWeakSidesUptoSaid : Prop := fnExactWeakSidesUptoRow.holds Try.pinned (OpenSpec.upto fnExactWeakSidesSpec)

/-- 'laws.FnExactBestGate', WHERE WHAT IT READS IS OF BULK AT MOST 1048576: true; the input reads as it did. -/
def fnExactBestGateUptoRow : OpenClaim := { program := "ytdnndidihedndaarr", sum := "84da1b106350259b8120bad8477c7d85efd8d902328e3143f356f8b3d5b11f5b", func := "loop.example/g01345/laws.FnExactBestGate", spec := "fnExactBestGate", unfollowed := true, recurses := true, plainKeys := false, apart := false, narrowed := true }
def FnExactBestGateUptoSaid : Prop := fnExactBestGateUptoRow.holds Try.pinned (OpenSpec.upto fnExactBestGateSpec)

/-- 'laws.FnExactCheckApart', WHERE WHAT IT READS IS OF BULK AT MOST 1048576: true; the input reads as it did. -/
def fnExactCheckApartUptoRow : OpenClaim := { program := "ytdnndidihedndaarr", sum := "84da1b106350259b8120bad8477c7d85efd8d902328e3143f356f8b3d5b11f5b", func := "loop.example/g01345/laws.FnExactCheckApart", spec := "fnExactCheckApart", unfollowed := true, recurses := true, plainKeys := false, apart := false, narrowed := true }
def FnExactCheckApartUptoSaid : Prop := fnExactCheckApartUptoRow.holds Try.pinned (OpenSpec.upto fnExactCheckApartSpec)

/-- 'laws.FnExactCheckPart', WHERE WHAT IT READS IS OF BULK AT MOST 1048576: true; the input reads as it did. -/
def fnExactCheckPartUptoRow : OpenClaim := { program := "ytdnndidihedndaarr", sum := "84da1b106350259b8120bad8477c7d85efd8d902328e3143f356f8b3d5b11f5b", func := "loop.example/g01345/laws.FnExactCheckPart", spec := "fnExactCheckPart", unfollowed := true, recurses := true, plainKeys := false, apart := false, narrowed := true }
def FnExactCheckPartUptoSaid : Prop := fnExactCheckPartUptoRow.holds Try.pinned (OpenSpec.upto fnExactCheckPartSpec)

/-- 'laws.FnExactCheckWays', WHERE WHAT IT READS IS OF BULK AT MOST 1048576: true; the input reads as it did. -/
def fnExactCheckWaysUptoRow : OpenClaim := { program := "ytdnndidihedndaarr", sum := "84da1b106350259b8120bad8477c7d85efd8d902328e3143f356f8b3d5b11f5b", func := "loop.example/g01345/laws.FnExactCheckWays", spec := "fnExactCheckWays", unfollowed := true, recurses := true, plainKeys := false, apart := false, narrowed := true }
def FnExactCheckWaysUptoSaid : Prop := fnExactCheckWaysUptoRow.holds Try.pinned (OpenSpec.upto fnExactCheckWaysSpec)

/-- 'laws.FnExactMeetingPairs', WHERE WHAT IT READS IS OF BULK AT MOST 1048576: true; the input reads as it did. -/
def fnExactMeetingPairsUptoRow : OpenClaim := { program := "ytdnndidihedndaarr", sum := "84da1b106350259b8120bad8477c7d85efd8d902328e3143f356f8b3d5b11f5b", func := "loop.example/g01345/laws.FnExactMeetingPairs", spec := "fnExactMeetingPairs", unfollowed := true, recurses := true, plainKeys := false, apart := false, narrowed := true }
def FnExactMeetingPairsUptoSaid : Prop := fnExactMeetingPairsUptoRow.holds Try.pinned (OpenSpec.upto fnExactMeetingPairsSpec)

/-- 'laws.FnExactCanMeet', WHERE WHAT IT READS IS OF BULK AT MOST 1048576: true; the input reads as it did. -/
def fnExactCanMeetUptoRow : OpenClaim := { program := "ytdnndidihedndaarr", sum := "84da1b106350259b8120bad8477c7d85efd8d902328e3143f356f8b3d5b11f5b", func := "loop.example/g01345/laws.FnExactCanMeet", spec := "fnExactCanMeet", unfollowed := true, recurses := true, plainKeys := false, apart := false, narrowed := true }
def FnExactCanMeetUptoSaid : Prop := fnExactCanMeetUptoRow.holds Try.pinned (OpenSpec.upto fnExactCanMeetSpec)

/-- 'laws.FnExactFeedGoat', WHERE WHAT IT READS IS OF BULK AT MOST 1048576: true; the input reads as it did. -/
def fnExactFeedGoatUptoRow : OpenClaim := { program := "ytdnndidihedndaarr", sum := "84da1b106350259b8120bad8477c7d85efd8d902328e3143f356f8b3d5b11f5b", func := "loop.example/g01345/laws.FnExactFeedGoat", spec := "fnExactFeedGoat", unfollowed := true, recurses := true, plainKeys := false, apart := false, narrowed := true }
def FnExactFeedGoatUptoSaid : Prop := fnExactFeedGoatUptoRow.holds Try.pinned (OpenSpec.upto fnExactFeedGoatSpec)

/-- 'laws.FnExactBiteOnce', WHERE WHAT IT READS IS OF BULK AT MOST 1048576: true; the input reads as it did. -/
def fnExactBiteOnceUptoRow : OpenClaim := { program := "ytdnndidihedndaarr", sum := "84da1b106350259b8120bad8477c7d85efd8d902328e3143f356f8b3d5b11f5b", func := "loop.example/g01345/laws.FnExactBiteOnce", spec := "fnExactBiteOnce", unfollowed := true, recurses := true, plainKeys := false, apart := false, narrowed := true }
def FnExactBiteOnceUptoSaid : Prop := fnExactBiteOnceUptoRow.holds Try.pinned (OpenSpec.upto fnExactBiteOnceSpec)

/-- 'laws.FnExactHungryGoats', WHERE WHAT IT READS IS OF BULK AT MOST 1048576: true; the input reads as it did. -/
def fnExactHungryGoatsUptoRow : OpenClaim := { program := "ytdnndidihedndaarr", sum := "84da1b106350259b8120bad8477c7d85efd8d902328e3143f356f8b3d5b11f5b", func := "loop.example/g01345/laws.FnExactHungryGoats", spec := "fnExactHungryGoats", unfollowed := true, recurses := true, plainKeys := false, apart := false, narrowed := true }
def FnExactHungryGoatsUptoSaid : Prop := fnExactHungryGoatsUptoRow.holds Try.pinned (OpenSpec.upto fnExactHungryGoatsSpec)

/-- 'laws.FnExactFeedDays', WHERE WHAT IT READS IS OF BULK AT MOST 1048576: true; the input reads as it did. -/
def fnExactFeedDaysUptoRow : OpenClaim := { program := "ytdnndidihedndaarr", sum := "84da1b106350259b8120bad8477c7d85efd8d902328e3143f356f8b3d5b11f5b", func := "loop.example/g01345/laws.FnExactFeedDays", spec := "fnExactFeedDays", unfollowed := true, recurses := true, plainKeys := false, apart := false, narrowed := true }
def FnExactFeedDaysUptoSaid : Prop := fnExactFeedDaysUptoRow.holds Try.pinned (OpenSpec.upto fnExactFeedDaysSpec)

/-- 'laws.FnExactFeedByBites', WHERE WHAT IT READS IS OF BULK AT MOST 1048576: true; the input reads as it did. -/
def fnExactFeedByBitesUptoRow : OpenClaim := { program := "ytdnndidihedndaarr", sum := "84da1b106350259b8120bad8477c7d85efd8d902328e3143f356f8b3d5b11f5b", func := "loop.example/g01345/laws.FnExactFeedByBites", spec := "fnExactFeedByBites", unfollowed := true, recurses := true, plainKeys := false, apart := false, narrowed := true }
def FnExactFeedByBitesUptoSaid : Prop := fnExactFeedByBitesUptoRow.holds Try.pinned (OpenSpec.upto fnExactFeedByBitesSpec)

/-- 'laws.FnExactFeedInTurn', WHERE WHAT IT READS IS OF BULK AT MOST 1048576: true; the input reads as it did. -/
def fnExactFeedInTurnUptoRow : OpenClaim := { program := "ytdnndidihedndaarr", sum := "84da1b106350259b8120bad8477c7d85efd8d902328e3143f356f8b3d5b11f5b", func := "loop.example/g01345/laws.FnExactFeedInTurn", spec := "fnExactFeedInTurn", unfollowed := true, recurses := true, plainKeys := false, apart := false, narrowed := true }
def FnExactFeedInTurnUptoSaid : Prop := fnExactFeedInTurnUptoRow.holds Try.pinned (OpenSpec.upto fnExactFeedInTurnSpec)

/-- 'laws.FnExactDropIdle', WHERE WHAT IT READS IS OF BULK AT MOST 1048576: true; the input reads as it did. -/
def fnExactDropIdleUptoRow : OpenClaim := { program := "ytdnndidihedndaarr", sum := "84da1b106350259b8120bad8477c7d85efd8d902328e3143f356f8b3d5b11f5b", func := "loop.example/g01345/laws.FnExactDropIdle", spec := "fnExactDropIdle", unfollowed := true, recurses := true, plainKeys := false, apart := false, narrowed := true }
def FnExactDropIdleUptoSaid : Prop := fnExactDropIdleUptoRow.holds Try.pinned (OpenSpec.upto fnExactDropIdleSpec)

/-- 'laws.FnRopes', WHERE WHAT IT READS IS OF BULK AT MOST 1048576: true; the input reads as it did. -/
def fnRopesUptoRow : OpenClaim := { program := "ytdnndidihedndaarr", sum := "84da1b106350259b8120bad8477c7d85efd8d902328e3143f356f8b3d5b11f5b", func := "loop.example/g01345/laws.FnRopes", spec := "fnRopes", unfollowed := true, recurses := true, plainKeys := false, apart := false, narrowed := true }
def FnRopesUptoSaid : Prop := fnRopesUptoRow.holds Try.pinned (OpenSpec.upto fnRopesSpec)

end Rows
end Go.Proofs.YtdnndidihedndaaRR
