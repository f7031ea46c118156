/-
  No cell of these rows narrows 'for every input' (looked for: loops, veiled, ifaces, maps, wideKeys, modest, calm, conditions, laid).
  DERIVED. THE GIVEN ROWS OF THIS SEAT. 22 by the template 'for every input the law returns true; each argument reads behind the call as it read before'; 0 by the template 'total and deterministic' (their statements: YtfefkkpcjcnmcaaTotals.lean).
  GIVEN WITH THE SEED: the statements are not yours to turn. If you find one false, say at which input.
  Laid BY PROGRAM, IN A SANDBOX (cutbox-rows.mjs): the forced cells as the released guide's own fill.sh prints them over the translation 8484adf350878154… (all of the seat's roots in one cut). By AI agents, Wed Nov 11 2026. No macro, syntax, notation, axiom, sorry.
-/
import Derived.Test.YtfefkkpcjcnmcaaChecked
import GoSem.Claim
import GoSem.ClaimJoined
import GoSem.ClaimMapViews
import Derived.JoinedTies
import Derived.KernelRfl
namespace Go.Proofs.Ytfefkkpcjcnmcaa
/- THE CELL 'sum', in the pinned program and in every row, IS THE sha256 OF THE DUMP (.gsa) THAT YtfefkkpcjcnmcaaProg.lean LOADS. Nothing in Lean hashes anything: it is a label: what it is worth is what the hold of that sum in a sandbox is worth. -/
noncomputable def Try.pinned : Pinned := { name := "ytfefkkpcjcnmcaa", sum := "8484adf350878154084be12884e433801571322dbaa58e58ce1c334990a506e9", checked := Try.checked }
namespace Rows
def none {H : Type} : Left H := { results := [], args := [] }

/-- 'laws.FnExactWindsOf': WHATEVER THE INPUT: true; the input reads as it did. -/
def fnExactWindsOfSpec : ChangeSpec := { name := "fnExactWindsOf", fn := fun _ => fun
  | [d1, d2, d3] => { results := [.lit (.bool true)], args := [d1, d2, d3] }
  | _ => none }
def fnExactWindsOfRow : OpenClaim := { program := "ytfefkkpcjcnmcaa", sum := "8484adf350878154084be12884e433801571322dbaa58e58ce1c334990a506e9", func := "loop.example/g01345/laws.FnExactWindsOf", spec := "fnExactWindsOf", unfollowed := true, recurses := true, apart := false }
def FnExactWindsOfSaid : Prop := fnExactWindsOfRow.holds Try.pinned (OpenSpec.ofChange fnExactWindsOfSpec)

/-- ITS FALSE NEIGHBOUR: 'it returns false'. Refute it at one input. -/
def fnExactWindsOfWrong : ChangeSpec := { name := "fnExactWindsOf", fn := fun _ => fun
  | [d1, d2, d3] => { results := [.lit (.bool false)], args := [d1, d2, d3] }
  | _ => none }
def FnExactWindsOfWrongFalsely : Prop := fnExactWindsOfRow.holds Try.pinned (OpenSpec.ofChange fnExactWindsOfWrong)

/-- 'laws.FnExactStepsReach': WHATEVER THE INPUT: true; the input reads as it did. -/
def fnExactStepsReachSpec : ChangeSpec := { name := "fnExactStepsReach", fn := fun _ => fun
  | [d1, d2, d3] => { results := [.lit (.bool true)], args := [d1, d2, d3] }
  | _ => none }
def fnExactStepsReachRow : OpenClaim := { program := "ytfefkkpcjcnmcaa", sum := "8484adf350878154084be12884e433801571322dbaa58e58ce1c334990a506e9", func := "loop.example/g01345/laws.FnExactStepsReach", spec := "fnExactStepsReach", unfollowed := true, recurses := true, apart := false }
def FnExactStepsReachSaid : Prop := fnExactStepsReachRow.holds Try.pinned (OpenSpec.ofChange fnExactStepsReachSpec)

/-- ITS FALSE NEIGHBOUR: 'it returns false'. Refute it at one input. -/
def fnExactStepsReachWrong : ChangeSpec := { name := "fnExactStepsReach", fn := fun _ => fun
  | [d1, d2, d3] => { results := [.lit (.bool false)], args := [d1, d2, d3] }
  | _ => none }
def FnExactStepsReachWrongFalsely : Prop := fnExactStepsReachRow.holds Try.pinned (OpenSpec.ofChange fnExactStepsReachWrong)

/-- 'laws.FnExactFoodOf': WHATEVER THE INPUT: true; the input reads as it did. -/
def fnExactFoodOfSpec : ChangeSpec := { name := "fnExactFoodOf", fn := fun _ => fun
  | [d1, d2] => { results := [.lit (.bool true)], args := [d1, d2] }
  | _ => none }
def fnExactFoodOfRow : OpenClaim := { program := "ytfefkkpcjcnmcaa", sum := "8484adf350878154084be12884e433801571322dbaa58e58ce1c334990a506e9", func := "loop.example/g01345/laws.FnExactFoodOf", spec := "fnExactFoodOf", unfollowed := true, recurses := true, apart := false }
def FnExactFoodOfSaid : Prop := fnExactFoodOfRow.holds Try.pinned (OpenSpec.ofChange fnExactFoodOfSpec)

/-- ITS FALSE NEIGHBOUR: 'it returns false'. Refute it at one input. -/
def fnExactFoodOfWrong : ChangeSpec := { name := "fnExactFoodOf", fn := fun _ => fun
  | [d1, d2] => { results := [.lit (.bool false)], args := [d1, d2] }
  | _ => none }
def FnExactFoodOfWrongFalsely : Prop := fnExactFoodOfRow.holds Try.pinned (OpenSpec.ofChange fnExactFoodOfWrong)

/-- 'laws.FnExactRopeLeft': WHATEVER THE INPUT: true; the input reads as it did. -/
def fnExactRopeLeftSpec : ChangeSpec := { name := "fnExactRopeLeft", fn := fun _ => fun
  | [d1, d2, d3, d4] => { results := [.lit (.bool true)], args := [d1, d2, d3, d4] }
  | _ => none }
def fnExactRopeLeftRow : OpenClaim := { program := "ytfefkkpcjcnmcaa", sum := "8484adf350878154084be12884e433801571322dbaa58e58ce1c334990a506e9", func := "loop.example/g01345/laws.FnExactRopeLeft", spec := "fnExactRopeLeft", unfollowed := true, recurses := true, apart := false }
def FnExactRopeLeftSaid : Prop := fnExactRopeLeftRow.holds Try.pinned (OpenSpec.ofChange fnExactRopeLeftSpec)

/-- ITS FALSE NEIGHBOUR: 'it returns false'. Refute it at one input. -/
def fnExactRopeLeftWrong : ChangeSpec := { name := "fnExactRopeLeft", fn := fun _ => fun
  | [d1, d2, d3, d4] => { results := [.lit (.bool false)], args := [d1, d2, d3, d4] }
  | _ => none }
def FnExactRopeLeftWrongFalsely : Prop := fnExactRopeLeftRow.holds Try.pinned (OpenSpec.ofChange fnExactRopeLeftWrong)

/-- 'laws.FnExactLeastReach': WHATEVER THE INPUT: true; the input reads as it did. -/
def fnExactLeastReachSpec : ChangeSpec := { name := "fnExactLeastReach", fn := fun _ => fun
  | [d1, d2, d3] => { results := [.lit (.bool true)], args := [d1, d2, d3] }
  | _ => none }
def fnExactLeastReachRow : OpenClaim := { program := "ytfefkkpcjcnmcaa", sum := "8484adf350878154084be12884e433801571322dbaa58e58ce1c334990a506e9", func := "loop.example/g01345/laws.FnExactLeastReach", spec := "fnExactLeastReach", unfollowed := true, recurses := true, apart := false }
def FnExactLeastReachSaid : Prop := fnExactLeastReachRow.holds Try.pinned (OpenSpec.ofChange fnExactLeastReachSpec)

/-- ITS FALSE NEIGHBOUR: 'it returns false'. Refute it at one input. -/
def fnExactLeastReachWrong : ChangeSpec := { name := "fnExactLeastReach", fn := fun _ => fun
  | [d1, d2, d3] => { results := [.lit (.bool false)], args := [d1, d2, d3] }
  | _ => none }
def FnExactLeastReachWrongFalsely : Prop := fnExactLeastReachRow.holds Try.pinned (OpenSpec.ofChange fnExactLeastReachWrong)

/-- 'laws.FnExactReachOf': WHATEVER THE INPUT: true; the input reads as it did. -/
def fnExactReachOfSpec : ChangeSpec := { name := "fnExactReachOf", fn := fun _ => fun
  | [d1, d2] => { results := [.lit (.bool true)], args := [d1, d2] }
  | _ => none }
def fnExactReachOfRow : OpenClaim := { program := "ytfefkkpcjcnmcaa", sum := "8484adf350878154084be12884e433801571322dbaa58e58ce1c334990a506e9", func := "loop.example/g01345/laws.FnExactReachOf", spec := "fnExactReachOf", unfollowed := true, recurses := true, apart := false }
def FnExactReachOfSaid : Prop := fnExactReachOfRow.holds Try.pinned (OpenSpec.ofChange fnExactReachOfSpec)

/-- ITS FALSE NEIGHBOUR: 'it returns false'. Refute it at one input. -/
def fnExactReachOfWrong : ChangeSpec := { name := "fnExactReachOf", fn := fun _ => fun
  | [d1, d2] => { results := [.lit (.bool false)], args := [d1, d2] }
  | _ => none }
def FnExactReachOfWrongFalsely : Prop := fnExactReachOfRow.holds Try.pinned (OpenSpec.ofChange fnExactReachOfWrong)

/-- 'laws.FnExactCellsFor': WHATEVER THE INPUT: true; the input reads as it did. -/
def fnExactCellsForSpec : ChangeSpec := { name := "fnExactCellsFor", fn := fun _ => fun
  | [d1, d2] => { results := [.lit (.bool true)], args := [d1, d2] }
  | _ => none }
def fnExactCellsForRow : OpenClaim := { program := "ytfefkkpcjcnmcaa", sum := "8484adf350878154084be12884e433801571322dbaa58e58ce1c334990a506e9", func := "loop.example/g01345/laws.FnExactCellsFor", spec := "fnExactCellsFor", unfollowed := true, recurses := true, apart := false }
def FnExactCellsForSaid : Prop := fnExactCellsForRow.holds Try.pinned (OpenSpec.ofChange fnExactCellsForSpec)

/-- ITS FALSE NEIGHBOUR: 'it returns false'. Refute it at one input. -/
def fnExactCellsForWrong : ChangeSpec := { name := "fnExactCellsFor", fn := fun _ => fun
  | [d1, d2] => { results := [.lit (.bool false)], args := [d1, d2] }
  | _ => none }
def FnExactCellsForWrongFalsely : Prop := fnExactCellsForRow.holds Try.pinned (OpenSpec.ofChange fnExactCellsForWrong)

/-- 'laws.FnExactJoinYards': WHATEVER THE INPUT: true; the input reads as it did. -/
def fnExactJoinYardsSpec : ChangeSpec := { name := "fnExactJoinYards", fn := fun _ => fun
  | [d] => { results := [.lit (.bool true)], args := [d] }
  | _ => none }
def fnExactJoinYardsRow : OpenClaim := { program := "ytfefkkpcjcnmcaa", sum := "8484adf350878154084be12884e433801571322dbaa58e58ce1c334990a506e9", func := "loop.example/g01345/laws.FnExactJoinYards", spec := "fnExactJoinYards", unfollowed := true, recurses := true, apart := false }
def FnExactJoinYardsSaid : Prop := fnExactJoinYardsRow.holds Try.pinned (OpenSpec.ofChange fnExactJoinYardsSpec)

/-- ITS FALSE NEIGHBOUR: 'it returns false'. Refute it at one input. -/
def fnExactJoinYardsWrong : ChangeSpec := { name := "fnExactJoinYards", fn := fun _ => fun
  | [d] => { results := [.lit (.bool false)], args := [d] }
  | _ => none }
def FnExactJoinYardsWrongFalsely : Prop := fnExactJoinYardsRow.holds Try.pinned (OpenSpec.ofChange fnExactJoinYardsWrong)

/-- 'laws.FnExactWeakSides': WHATEVER THE INPUT: true; the input reads as it did. -/
def fnExactWeakSidesSpec : ChangeSpec := { name := "fnExactWeakSides", fn := fun _ => fun
  | [d] => { results := [.lit (.bool true)], args := [d] }
  | _ => none }
def fnExactWeakSidesRow : OpenClaim := { program := "ytfefkkpcjcnmcaa", sum := "8484adf350878154084be12884e433801571322dbaa58e58ce1c334990a506e9", func := "loop.example/g01345/laws.FnExactWeakSides", spec := "fnExactWeakSides", unfollowed := true, recurses := true, apart := false }
def FnExactWeakSidesSaid : Prop := fnExactWeakSidesRow.holds Try.pinned (OpenSpec.ofChange fnExactWeakSidesSpec)

/-- ITS FALSE NEIGHBOUR: 'it returns false'. Refute it at one input. -/
def fnExactWeakSidesWrong : ChangeSpec := { name := "fnExactWeakSides", fn := fun _ => fun
  | [d] => { results := [.lit (.bool false)], args := [d] }
  | _ => none }
def FnExactWeakSidesWrongFalsely : Prop := fnExactWeakSidesRow.holds Try.pinned (OpenSpec.ofChange fnExactWeakSidesWrong)

/-- 'laws.FnExactCommonOf': WHATEVER THE INPUT: true; the input reads as it did. -/
def fnExactCommonOfSpec : ChangeSpec := { name := "fnExactCommonOf", fn := fun _ => fun
  | [d1, d2, d3] => { results := [.lit (.bool true)], args := [d1, d2, d3] }
  | _ => none }
def fnExactCommonOfRow : OpenClaim := { program := "ytfefkkpcjcnmcaa", sum := "8484adf350878154084be12884e433801571322dbaa58e58ce1c334990a506e9", func := "loop.example/g01345/laws.FnExactCommonOf", spec := "fnExactCommonOf", unfollowed := true, recurses := true, apart := false }
def FnExactCommonOfSaid : Prop := fnExactCommonOfRow.holds Try.pinned (OpenSpec.ofChange fnExactCommonOfSpec)

/-- ITS FALSE NEIGHBOUR: 'it returns false'. Refute it at one input. -/
def fnExactCommonOfWrong : ChangeSpec := { name := "fnExactCommonOf", fn := fun _ => fun
  | [d1, d2, d3] => { results := [.lit (.bool false)], args := [d1, d2, d3] }
  | _ => none }
def FnExactCommonOfWrongFalsely : Prop := fnExactCommonOfRow.holds Try.pinned (OpenSpec.ofChange fnExactCommonOfWrong)

/-- 'laws.FnExactBestGate': WHATEVER THE INPUT: true; the input reads as it did. -/
def fnExactBestGateSpec : ChangeSpec := { name := "fnExactBestGate", fn := fun _ => fun
  | [d1, d2, d3] => { results := [.lit (.bool true)], args := [d1, d2, d3] }
  | _ => none }
def fnExactBestGateRow : OpenClaim := { program := "ytfefkkpcjcnmcaa", sum := "8484adf350878154084be12884e433801571322dbaa58e58ce1c334990a506e9", func := "loop.example/g01345/laws.FnExactBestGate", spec := "fnExactBestGate", unfollowed := true, recurses := true, apart := false }
def FnExactBestGateSaid : Prop := fnExactBestGateRow.holds Try.pinned (OpenSpec.ofChange fnExactBestGateSpec)

/-- ITS FALSE NEIGHBOUR: 'it returns false'. Refute it at one input. -/
def fnExactBestGateWrong : ChangeSpec := { name := "fnExactBestGate", fn := fun _ => fun
  | [d1, d2, d3] => { results := [.lit (.bool false)], args := [d1, d2, d3] }
  | _ => none }
def FnExactBestGateWrongFalsely : Prop := fnExactBestGateRow.holds Try.pinned (OpenSpec.ofChange fnExactBestGateWrong)

/-- 'laws.FnExactChoiceOf': WHATEVER THE INPUT: true; the input reads as it did. -/
def fnExactChoiceOfSpec : ChangeSpec := { name := "fnExactChoiceOf", fn := fun _ => fun
  | [d1, d2, d3] => { results := [.lit (.bool true)], args := [d1, d2, d3] }
  | _ => none }
def fnExactChoiceOfRow : OpenClaim := { program := "ytfefkkpcjcnmcaa", sum := "8484adf350878154084be12884e433801571322dbaa58e58ce1c334990a506e9", func := "loop.example/g01345/laws.FnExactChoiceOf", spec := "fnExactChoiceOf", unfollowed := true, recurses := true, apart := false }
def FnExactChoiceOfSaid : Prop := fnExactChoiceOfRow.holds Try.pinned (OpenSpec.ofChange fnExactChoiceOfSpec)

/-- ITS FALSE NEIGHBOUR: 'it returns false'. Refute it at one input. -/
def fnExactChoiceOfWrong : ChangeSpec := { name := "fnExactChoiceOf", fn := fun _ => fun
  | [d1, d2, d3] => { results := [.lit (.bool false)], args := [d1, d2, d3] }
  | _ => none }
def FnExactChoiceOfWrongFalsely : Prop := fnExactChoiceOfRow.holds Try.pinned (OpenSpec.ofChange fnExactChoiceOfWrong)

/-- 'laws.FnExactCheckApart': WHATEVER THE INPUT: true; the input reads as it did. -/
def fnExactCheckApartSpec : ChangeSpec := { name := "fnExactCheckApart", fn := fun _ => fun
  | [d1, d2, d3] => { results := [.lit (.bool true)], args := [d1, d2, d3] }
  | _ => none }
def fnExactCheckApartRow : OpenClaim := { program := "ytfefkkpcjcnmcaa", sum := "8484adf350878154084be12884e433801571322dbaa58e58ce1c334990a506e9", func := "loop.example/g01345/laws.FnExactCheckApart", spec := "fnExactCheckApart", unfollowed := true, recurses := true, apart := false }
def FnExactCheckApartSaid : Prop := fnExactCheckApartRow.holds Try.pinned (OpenSpec.ofChange fnExactCheckApartSpec)

/-- ITS FALSE NEIGHBOUR: 'it returns false'. Refute it at one input. -/
def fnExactCheckApartWrong : ChangeSpec := { name := "fnExactCheckApart", fn := fun _ => fun
  | [d1, d2, d3] => { results := [.lit (.bool false)], args := [d1, d2, d3] }
  | _ => none }
def FnExactCheckApartWrongFalsely : Prop := fnExactCheckApartRow.holds Try.pinned (OpenSpec.ofChange fnExactCheckApartWrong)

/-- 'laws.FnExactCheckWays': WHATEVER THE INPUT: true; the input reads as it did. -/
def fnExactCheckWaysSpec : ChangeSpec := { name := "fnExactCheckWays", fn := fun _ => fun
  | [d1, d2, d3, d4] => { results := [.lit (.bool true)], args := [d1, d2, d3, d4] }
  | _ => none }
def fnExactCheckWaysRow : OpenClaim := { program := "ytfefkkpcjcnmcaa", sum := "8484adf350878154084be12884e433801571322dbaa58e58ce1c334990a506e9", func := "loop.example/g01345/laws.FnExactCheckWays", spec := "fnExactCheckWays", unfollowed := true, recurses := true, apart := false }
def FnExactCheckWaysSaid : Prop := fnExactCheckWaysRow.holds Try.pinned (OpenSpec.ofChange fnExactCheckWaysSpec)

/-- ITS FALSE NEIGHBOUR: 'it returns false'. Refute it at one input. -/
def fnExactCheckWaysWrong : ChangeSpec := { name := "fnExactCheckWays", fn := fun _ => fun
  | [d1, d2, d3, d4] => { results := [.lit (.bool false)], args := [d1, d2, d3, d4] }
  | _ => none }
def FnExactCheckWaysWrongFalsely : Prop := fnExactCheckWaysRow.holds Try.pinned (OpenSpec.ofChange fnExactCheckWaysWrong)

/-- 'laws.FnExactGreatestReach': WHATEVER THE INPUT: true; the input reads as it did. -/
def fnExactGreatestReachSpec : ChangeSpec := { name := "fnExactGreatestReach", fn := fun _ => fun
  | [d1, d2, d3] => { results := [.lit (.bool true)], args := [d1, d2, d3] }
  | _ => none }
def fnExactGreatestReachRow : OpenClaim := { program := "ytfefkkpcjcnmcaa", sum := "8484adf350878154084be12884e433801571322dbaa58e58ce1c334990a506e9", func := "loop.example/g01345/laws.FnExactGreatestReach", spec := "fnExactGreatestReach", unfollowed := true, recurses := true, apart := false }
def FnExactGreatestReachSaid : Prop := fnExactGreatestReachRow.holds Try.pinned (OpenSpec.ofChange fnExactGreatestReachSpec)

/-- ITS FALSE NEIGHBOUR: 'it returns false'. Refute it at one input. -/
def fnExactGreatestReachWrong : ChangeSpec := { name := "fnExactGreatestReach", fn := fun _ => fun
  | [d1, d2, d3] => { results := [.lit (.bool false)], args := [d1, d2, d3] }
  | _ => none }
def FnExactGreatestReachWrongFalsely : Prop := fnExactGreatestReachRow.holds Try.pinned (OpenSpec.ofChange fnExactGreatestReachWrong)

/-- 'laws.FnExactCheckPart': WHATEVER THE INPUT: true; the input reads as it did. -/
def fnExactCheckPartSpec : ChangeSpec := { name := "fnExactCheckPart", fn := fun _ => fun
  | [d1, d2, d3, d4] => { results := [.lit (.bool true)], args := [d1, d2, d3, d4] }
  | _ => none }
def fnExactCheckPartRow : OpenClaim := { program := "ytfefkkpcjcnmcaa", sum := "8484adf350878154084be12884e433801571322dbaa58e58ce1c334990a506e9", func := "loop.example/g01345/laws.FnExactCheckPart", spec := "fnExactCheckPart", unfollowed := true, recurses := true, apart := false }
def FnExactCheckPartSaid : Prop := fnExactCheckPartRow.holds Try.pinned (OpenSpec.ofChange fnExactCheckPartSpec)

/-- ITS FALSE NEIGHBOUR: 'it returns false'. Refute it at one input. -/
def fnExactCheckPartWrong : ChangeSpec := { name := "fnExactCheckPart", fn := fun _ => fun
  | [d1, d2, d3, d4] => { results := [.lit (.bool false)], args := [d1, d2, d3, d4] }
  | _ => none }
def FnExactCheckPartWrongFalsely : Prop := fnExactCheckPartRow.holds Try.pinned (OpenSpec.ofChange fnExactCheckPartWrong)

/-- 'laws.FnExactWhoEatsAt': WHATEVER THE INPUT: true; the input reads as it did. -/
def fnExactWhoEatsAtSpec : ChangeSpec := { name := "fnExactWhoEatsAt", fn := fun _ => fun
  | [d1, d2, d3] => { results := [.lit (.bool true)], args := [d1, d2, d3] }
  | _ => none }
def fnExactWhoEatsAtRow : OpenClaim := { program := "ytfefkkpcjcnmcaa", sum := "8484adf350878154084be12884e433801571322dbaa58e58ce1c334990a506e9", func := "loop.example/g01345/laws.FnExactWhoEatsAt", spec := "fnExactWhoEatsAt", unfollowed := true, recurses := true, apart := false }
def FnExactWhoEatsAtSaid : Prop := fnExactWhoEatsAtRow.holds Try.pinned (OpenSpec.ofChange fnExactWhoEatsAtSpec)

/-- ITS FALSE NEIGHBOUR: 'it returns false'. Refute it at one input. -/
def fnExactWhoEatsAtWrong : ChangeSpec := { name := "fnExactWhoEatsAt", fn := fun _ => fun
  | [d1, d2, d3] => { results := [.lit (.bool false)], args := [d1, d2, d3] }
  | _ => none }
def FnExactWhoEatsAtWrongFalsely : Prop := fnExactWhoEatsAtRow.holds Try.pinned (OpenSpec.ofChange fnExactWhoEatsAtWrong)

/-- 'laws.FnExactMeetingPairs': WHATEVER THE INPUT: true; the input reads as it did. -/
def fnExactMeetingPairsSpec : ChangeSpec := { name := "fnExactMeetingPairs", fn := fun _ => fun
  | [d1, d2] => { results := [.lit (.bool true)], args := [d1, d2] }
  | _ => none }
def fnExactMeetingPairsRow : OpenClaim := { program := "ytfefkkpcjcnmcaa", sum := "8484adf350878154084be12884e433801571322dbaa58e58ce1c334990a506e9", func := "loop.example/g01345/laws.FnExactMeetingPairs", spec := "fnExactMeetingPairs", unfollowed := true, recurses := true, apart := false }
def FnExactMeetingPairsSaid : Prop := fnExactMeetingPairsRow.holds Try.pinned (OpenSpec.ofChange fnExactMeetingPairsSpec)

/-- ITS FALSE NEIGHBOUR: 'it returns false'. Refute it at one input. -/
def fnExactMeetingPairsWrong : ChangeSpec := { name := "fnExactMeetingPairs", fn := fun _ => fun
  | [d1, d2] => { results := [.lit (.bool false)], args := [d1, d2] }
  | _ => none }
def FnExactMeetingPairsWrongFalsely : Prop := fnExactMeetingPairsRow.holds Try.pinned (OpenSpec.ofChange fnExactMeetingPairsWrong)

/-- 'laws.FnExactSharedCells': WHATEVER THE INPUT: true; the input reads as it did. -/
def fnExactSharedCellsSpec : ChangeSpec := { name := "fnExactSharedCells", fn := fun _ => fun
  | [d1, d2] => { results := [.lit (.bool true)], args := [d1, d2] }
  | _ => none }
def fnExactSharedCellsRow : OpenClaim := { program := "ytfefkkpcjcnmcaa", sum := "8484adf350878154084be12884e433801571322dbaa58e58ce1c334990a506e9", func := "loop.example/g01345/laws.FnExactSharedCells", spec := "fnExactSharedCells", unfollowed := true, recurses := true, apart := false }
def FnExactSharedCellsSaid : Prop := fnExactSharedCellsRow.holds Try.pinned (OpenSpec.ofChange fnExactSharedCellsSpec)

/-- ITS FALSE NEIGHBOUR: 'it returns false'. Refute it at one input. -/
def fnExactSharedCellsWrong : ChangeSpec := { name := "fnExactSharedCells", fn := fun _ => fun
  | [d1, d2] => { results := [.lit (.bool false)], args := [d1, d2] }
  | _ => none }
def FnExactSharedCellsWrongFalsely : Prop := fnExactSharedCellsRow.holds Try.pinned (OpenSpec.ofChange fnExactSharedCellsWrong)

/-- 'laws.FnExactUncoveredBy': WHATEVER THE INPUT: true; the input reads as it did. -/
def fnExactUncoveredBySpec : ChangeSpec := { name := "fnExactUncoveredBy", fn := fun _ => fun
  | [d1, d2] => { results := [.lit (.bool true)], args := [d1, d2] }
  | _ => none }
def fnExactUncoveredByRow : OpenClaim := { program := "ytfefkkpcjcnmcaa", sum := "8484adf350878154084be12884e433801571322dbaa58e58ce1c334990a506e9", func := "loop.example/g01345/laws.FnExactUncoveredBy", spec := "fnExactUncoveredBy", unfollowed := true, recurses := true, apart := false }
def FnExactUncoveredBySaid : Prop := fnExactUncoveredByRow.holds Try.pinned (OpenSpec.ofChange fnExactUncoveredBySpec)

/-- ITS FALSE NEIGHBOUR: 'it returns false'. Refute it at one input. -/
def fnExactUncoveredByWrong : ChangeSpec := { name := "fnExactUncoveredBy", fn := fun _ => fun
  | [d1, d2] => { results := [.lit (.bool false)], args := [d1, d2] }
  | _ => none }
def FnExactUncoveredByWrongFalsely : Prop := fnExactUncoveredByRow.holds Try.pinned (OpenSpec.ofChange fnExactUncoveredByWrong)

/-- 'laws.FnExactCanMeet': WHATEVER THE INPUT: true; the input reads as it did. -/
def fnExactCanMeetSpec : ChangeSpec := { name := "fnExactCanMeet", fn := fun _ => fun
  | [d1, d2] => { results := [.lit (.bool true)], args := [d1, d2] }
  | _ => none }
def fnExactCanMeetRow : OpenClaim := { program := "ytfefkkpcjcnmcaa", sum := "8484adf350878154084be12884e433801571322dbaa58e58ce1c334990a506e9", func := "loop.example/g01345/laws.FnExactCanMeet", spec := "fnExactCanMeet", unfollowed := true, recurses := true, apart := false }
def FnExactCanMeetSaid : Prop := fnExactCanMeetRow.holds Try.pinned (OpenSpec.ofChange fnExactCanMeetSpec)

/-- ITS FALSE NEIGHBOUR: 'it returns false'. Refute it at one input. -/
def fnExactCanMeetWrong : ChangeSpec := { name := "fnExactCanMeet", fn := fun _ => fun
  | [d1, d2] => { results := [.lit (.bool false)], args := [d1, d2] }
  | _ => none }
def FnExactCanMeetWrongFalsely : Prop := fnExactCanMeetRow.holds Try.pinned (OpenSpec.ofChange fnExactCanMeetWrong)

/-- 'laws.FnRopes': WHATEVER THE INPUT: true; the input reads as it did. -/
def fnRopesSpec : ChangeSpec := { name := "fnRopes", fn := fun _ => fun
  | [d1, d2] => { results := [.lit (.bool true)], args := [d1, d2] }
  | _ => none }
def fnRopesRow : OpenClaim := { program := "ytfefkkpcjcnmcaa", sum := "8484adf350878154084be12884e433801571322dbaa58e58ce1c334990a506e9", func := "loop.example/g01345/laws.FnRopes", spec := "fnRopes", unfollowed := true, recurses := true, apart := false }
def FnRopesSaid : Prop := fnRopesRow.holds Try.pinned (OpenSpec.ofChange fnRopesSpec)

/-- ITS FALSE NEIGHBOUR: 'it returns false'. Refute it at one input. -/
def fnRopesWrong : ChangeSpec := { name := "fnRopes", fn := fun _ => fun
  | [d1, d2] => { results := [.lit (.bool false)], args := [d1, d2] }
  | _ => none }
def FnRopesWrongFalsely : Prop := fnRopesRow.holds Try.pinned (OpenSpec.ofChange fnRopesWrong)

/- THE SECOND FORM. 'bulk': how many values and letters a reading holds, each counted each time it is reached (what is shared counts as often as it is met; a slice's spare places count too). A statement '..UptoSaid' is the law's where the arguments, and the package variables that the reading takes, are together of bulk at most 1048576: NARROWER than '..Said'. Prove '..Said' where nothing that the law and all that it calls make is longer than what came in: it says more and counts as full. Else prove '..UptoSaid'. A law counts once. -/
mutual
def uptoBulk {H : Type} : DataW H → Nat
  | .lit (.string bytes) => bytes.length + 1
  | .lit _ => 1
  | .nil => 1
  | .ptr d => uptoBulk d + 1
  | .slice elems spare => uptoBulkAll elems + uptoBulkAll spare + 1
  | .agg parts => uptoBulkAll parts + 1
  | .iface _ d => uptoBulk d + 1
  | .map entries => uptoBulkEntries entries + 1
  | .held _ => 1
def uptoBulkAll {H : Type} : List (DataW H) → Nat
  | [] => 0
  | d :: r => uptoBulk d + uptoBulkAll r
def uptoBulkEntries {H : Type} : List (Lit × DataW H) → Nat
  | [] => 0
  | x :: r => uptoBulkEntry x + uptoBulkEntries r
def uptoBulkEntry {H : Type} : Lit × DataW H → Nat
  | (.string bytes, d) => bytes.length + uptoBulk d + 1
  | (_, d) => uptoBulk d + 1
 end
def uptoSmall : (H : Type) → List (DataW H) → Bool := fun _ ds => decide (uptoBulkAll ds ≤ 1048576)
def OpenSpec.upto (s : _root_.Go.ChangeSpec) : _root_.Go.OpenSpec := { _root_.Go.OpenSpec.ofChange s with cond := some uptoSmall }

/-- 'laws.FnExactWindsOf', WHERE WHAT IT READS IS OF BULK AT MOST 1048576: true; the input reads as it did. -/
def fnExactWindsOfUptoRow : OpenClaim := { program := "ytfefkkpcjcnmcaa", sum := "8484adf350878154084be12884e433801571322dbaa58e58ce1c334990a506e9", func := "loop.example/g01345/laws.FnExactWindsOf", spec := "fnExactWindsOf", unfollowed := true, recurses := true, apart := false, narrowed := true }
def FnExactWindsOfUptoSaid : Prop := fnExactWindsOfUptoRow.holds Try.pinned (OpenSpec.upto fnExactWindsOfSpec)

/-- 'laws.FnExactStepsReach', WHERE WHAT IT READS IS OF BULK AT MOST 1048576: true; the input reads as it did. -/
def fnExactStepsReachUptoRow : OpenClaim := { program := "ytfefkkpcjcnmcaa", sum := "8484adf350878154084be12884e433801571322dbaa58e58ce1c334990a506e9", func := "loop.example/g01345/laws.FnExactStepsReach", spec := "fnExactStepsReach", unfollowed := true, recurses := true, apart := false, narrowed := true }
def FnExactStepsReachUptoSaid : Prop := fnExactStepsReachUptoRow.holds Try.pinned (OpenSpec.upto fnExactStepsReachSpec)

/-- 'laws.FnExactFoodOf', WHERE WHAT IT READS IS OF BULK AT MOST 1048576: true; the input reads as it did. -/
def fnExactFoodOfUptoRow : OpenClaim := { program := "ytfefkkpcjcnmcaa", sum := "8484adf350878154084be12884e433801571322dbaa58e58ce1c334990a506e9", func := "loop.example/g01345/laws.FnExactFoodOf", spec := "fnExactFoodOf", unfollowed := true, recurses := true, apart := false, narrowed := true }
def FnExactFoodOfUptoSaid : Prop := fnExactFoodOfUptoRow.holds Try.pinned (OpenSpec.upto fnExactFoodOfSpec)

/-- 'laws.FnExactRopeLeft', WHERE WHAT IT READS IS OF BULK AT MOST 1048576: true; the input reads as it did. -/
def fnExactRopeLeftUptoRow : OpenClaim := { program := "ytfefkkpcjcnmcaa", sum := "8484adf350878154084be12884e433801571322dbaa58e58ce1c334990a506e9", func := "loop.example/g01345/laws.FnExactRopeLeft", spec := "fnExactRopeLeft", unfollowed := true, recurses := true, apart := false, narrowed := true }
def FnExactRopeLeftUptoSaid : Prop := fnExactRopeLeftUptoRow.holds Try.pinned (OpenSpec.upto fnExactRopeLeftSpec)

/-- 'laws.FnExactLeastReach', WHERE WHAT IT READS IS OF BULK AT MOST 1048576: true; the input reads as it did. -/
def fnExactLeastReachUptoRow : OpenClaim := { program := "ytfefkkpcjcnmcaa", sum := "8484adf350878154084be12884e433801571322dbaa58e58ce1c334990a506e9", func := "loop.example/g01345/laws.FnExactLeastReach", spec := "fnExactLeastReach", unfollowed := true, recurses := true, apart := false, narrowed := true }
def FnExactLeastReachUptoSaid : Prop := fnExactLeastReachUptoRow.holds Try.pinned (OpenSpec.upto fnExactLeastReachSpec)

/-- 'laws.FnExactReachOf', WHERE WHAT IT READS IS OF BULK AT MOST 1048576: true; the input reads as it did. -/
def fnExactReachOfUptoRow : OpenClaim := { program := "ytfefkkpcjcnmcaa", sum := "8484adf350878154084be12884e433801571322dbaa58e58ce1c334990a506e9", func := "loop.example/g01345/laws.FnExactReachOf", spec := "fnExactReachOf", unfollowed := true, recurses := true, apart := false, narrowed := true }
def FnExactReachOfUptoSaid : Prop := fnExactReachOfUptoRow.holds Try.pinned (OpenSpec.upto fnExactReachOfSpec)

/-- 'laws.FnExactCellsFor', WHERE WHAT IT READS IS OF BULK AT MOST 1048576: true; the input reads as it did. -/
def fnExactCellsForUptoRow : OpenClaim := { program := "ytfefkkpcjcnmcaa", sum := "8484adf350878154084be12884e433801571322dbaa58e58ce1c334990a506e9", func := "loop.example/g01345/laws.FnExactCellsFor", spec := "fnExactCellsFor", unfollowed := true, recurses := true, apart := false, narrowed := true }
def FnExactCellsForUptoSaid : Prop := fnExactCellsForUptoRow.holds Try.pinned (OpenSpec.upto fnExactCellsForSpec)

/-- 'laws.FnExactJoinYards', WHERE WHAT IT READS IS OF BULK AT MOST 1048576: true; the input reads as it did. -/
def fnExactJoinYardsUptoRow : OpenClaim := { program := "ytfefkkpcjcnmcaa", sum := "8484adf350878154084be12884e433801571322dbaa58e58ce1c334990a506e9", func := "loop.example/g01345/laws.FnExactJoinYards", spec := "fnExactJoinYards", unfollowed := true, recurses := true, apart := false, narrowed := true }
def FnExactJoinYardsUptoSaid : Prop := fnExactJoinYardsUptoRow.holds Try.pinned (OpenSpec.upto fnExactJoinYardsSpec)

/-- 'laws.FnExactWeakSides', WHERE WHAT IT READS IS OF BULK AT MOST 1048576: true; the input reads as it did. -/
def fnExactWeakSidesUptoRow : OpenClaim := { program := "ytfefkkpcjcnmcaa", sum := "8484adf350878154084be12884e433801571322dbaa58e58ce1c334990a506e9", func := "loop.example/g01345/laws.FnExactWeakSides", spec := "fnExactWeakSides", unfollowed := true, recurses := true, apart := false, narrowed := true }
def FnExactWeakSidesUptoSaid : Prop := fnExactWeakSidesUptoRow.holds Try.pinned (OpenSpec.upto fnExactWeakSidesSpec)

/-- 'laws.FnExactCommonOf', WHERE WHAT IT READS IS OF BULK AT MOST 1048576: true; the input reads as it did. -/
def fnExactCommonOfUptoRow : OpenClaim := { program := "ytfefkkpcjcnmcaa", sum := "8484adf350878154084be12884e433801571322dbaa58e58ce1c334990a506e9", func := "loop.example/g01345/laws.FnExactCommonOf", spec := "fnExactCommonOf", unfollowed := true, recurses := true, apart := false, narrowed := true }
def FnExactCommonOfUptoSaid : Prop := fnExactCommonOfUptoRow.holds Try.pinned (OpenSpec.upto fnExactCommonOfSpec)

/-- 'laws.FnExactBestGate', WHERE WHAT IT READS IS OF BULK AT MOST 1048576: true; the input reads as it did. -/
def fnExactBestGateUptoRow : OpenClaim := { program := "ytfefkkpcjcnmcaa", sum := "8484adf350878154084be12884e433801571322dbaa58e58ce1c334990a506e9", func := "loop.example/g01345/laws.FnExactBestGate", spec := "fnExactBestGate", unfollowed := true, recurses := true, apart := false, narrowed := true }
def FnExactBestGateUptoSaid : Prop := fnExactBestGateUptoRow.holds Try.pinned (OpenSpec.upto fnExactBestGateSpec)

/-- 'laws.FnExactChoiceOf', WHERE WHAT IT READS IS OF BULK AT MOST 1048576: true; the input reads as it did. -/
def fnExactChoiceOfUptoRow : OpenClaim := { program := "ytfefkkpcjcnmcaa", sum := "8484adf350878154084be12884e433801571322dbaa58e58ce1c334990a506e9", func := "loop.example/g01345/laws.FnExactChoiceOf", spec := "fnExactChoiceOf", unfollowed := true, recurses := true, apart := false, narrowed := true }
def FnExactChoiceOfUptoSaid : Prop := fnExactChoiceOfUptoRow.holds Try.pinned (OpenSpec.upto fnExactChoiceOfSpec)

/-- 'laws.FnExactCheckApart', WHERE WHAT IT READS IS OF BULK AT MOST 1048576: true; the input reads as it did. -/
def fnExactCheckApartUptoRow : OpenClaim := { program := "ytfefkkpcjcnmcaa", sum := "8484adf350878154084be12884e433801571322dbaa58e58ce1c334990a506e9", func := "loop.example/g01345/laws.FnExactCheckApart", spec := "fnExactCheckApart", unfollowed := true, recurses := true, apart := false, narrowed := true }
def FnExactCheckApartUptoSaid : Prop := fnExactCheckApartUptoRow.holds Try.pinned (OpenSpec.upto fnExactCheckApartSpec)

/-- 'laws.FnExactCheckWays', WHERE WHAT IT READS IS OF BULK AT MOST 1048576: true; the input reads as it did. -/
def fnExactCheckWaysUptoRow : OpenClaim := { program := "ytfefkkpcjcnmcaa", sum := "8484adf350878154084be12884e433801571322dbaa58e58ce1c334990a506e9", func := "loop.example/g01345/laws.FnExactCheckWays", spec := "fnExactCheckWays", unfollowed := true, recurses := true, apart := false, narrowed := true }
def FnExactCheckWaysUptoSaid : Prop := fnExactCheckWaysUptoRow.holds Try.pinned (OpenSpec.upto fnExactCheckWaysSpec)

/-- 'laws.FnExactGreatestReach', WHERE WHAT IT READS IS OF BULK AT MOST 1048576: true; the input reads as it did. -/
def fnExactGreatestReachUptoRow : OpenClaim := { program := "ytfefkkpcjcnmcaa", sum := "8484adf350878154084be12884e433801571322dbaa58e58ce1c334990a506e9", func := "loop.example/g01345/laws.FnExactGreatestReach", spec := "fnExactGreatestReach", unfollowed := true, recurses := true, apart := false, narrowed := true }
def FnExactGreatestReachUptoSaid : Prop := fnExactGreatestReachUptoRow.holds Try.pinned (OpenSpec.upto fnExactGreatestReachSpec)

/-- 'laws.FnExactCheckPart', WHERE WHAT IT READS IS OF BULK AT MOST 1048576: true; the input reads as it did. -/
def fnExactCheckPartUptoRow : OpenClaim := { program := "ytfefkkpcjcnmcaa", sum := "8484adf350878154084be12884e433801571322dbaa58e58ce1c334990a506e9", func := "loop.example/g01345/laws.FnExactCheckPart", spec := "fnExactCheckPart", unfollowed := true, recurses := true, apart := false, narrowed := true }
def FnExactCheckPartUptoSaid : Prop := fnExactCheckPartUptoRow.holds Try.pinned (OpenSpec.upto fnExactCheckPartSpec)

/-- 'laws.FnExactWhoEatsAt', WHERE WHAT IT READS IS OF BULK AT MOST 1048576: true; the input reads as it did. -/
def fnExactWhoEatsAtUptoRow : OpenClaim := { program := "ytfefkkpcjcnmcaa", sum := "8484adf350878154084be12884e433801571322dbaa58e58ce1c334990a506e9", func := "loop.example/g01345/laws.FnExactWhoEatsAt", spec := "fnExactWhoEatsAt", unfollowed := true, recurses := true, apart := false, narrowed := true }
def FnExactWhoEatsAtUptoSaid : Prop := fnExactWhoEatsAtUptoRow.holds Try.pinned (OpenSpec.upto fnExactWhoEatsAtSpec)

/-- 'laws.FnExactMeetingPairs', WHERE WHAT IT READS IS OF BULK AT MOST 1048576: true; the input reads as it did. -/
def fnExactMeetingPairsUptoRow : OpenClaim := { program := "ytfefkkpcjcnmcaa", sum := "8484adf350878154084be12884e433801571322dbaa58e58ce1c334990a506e9", func := "loop.example/g01345/laws.FnExactMeetingPairs", spec := "fnExactMeetingPairs", unfollowed := true, recurses := true, apart := false, narrowed := true }
def FnExactMeetingPairsUptoSaid : Prop := fnExactMeetingPairsUptoRow.holds Try.pinned (OpenSpec.upto fnExactMeetingPairsSpec)

/-- 'laws.FnExactSharedCells', WHERE WHAT IT READS IS OF BULK AT MOST 1048576: true; the input reads as it did. -/
def fnExactSharedCellsUptoRow : OpenClaim := { program := "ytfefkkpcjcnmcaa", sum := "8484adf350878154084be12884e433801571322dbaa58e58ce1c334990a506e9", func := "loop.example/g01345/laws.FnExactSharedCells", spec := "fnExactSharedCells", unfollowed := true, recurses := true, apart := false, narrowed := true }
def FnExactSharedCellsUptoSaid : Prop := fnExactSharedCellsUptoRow.holds Try.pinned (OpenSpec.upto fnExactSharedCellsSpec)

/-- 'laws.FnExactUncoveredBy', WHERE WHAT IT READS IS OF BULK AT MOST 1048576: true; the input reads as it did. -/
def fnExactUncoveredByUptoRow : OpenClaim := { program := "ytfefkkpcjcnmcaa", sum := "8484adf350878154084be12884e433801571322dbaa58e58ce1c334990a506e9", func := "loop.example/g01345/laws.FnExactUncoveredBy", spec := "fnExactUncoveredBy", unfollowed := true, recurses := true, apart := false, narrowed := true }
def FnExactUncoveredByUptoSaid : Prop := fnExactUncoveredByUptoRow.holds Try.pinned (OpenSpec.upto fnExactUncoveredBySpec)

/-- 'laws.FnExactCanMeet', WHERE WHAT IT READS IS OF BULK AT MOST 1048576: true; the input reads as it did. -/
def fnExactCanMeetUptoRow : OpenClaim := { program := "ytfefkkpcjcnmcaa", sum := "8484adf350878154084be12884e433801571322dbaa58e58ce1c334990a506e9", func := "loop.example/g01345/laws.FnExactCanMeet", spec := "fnExactCanMeet", unfollowed := true, recurses := true, apart := false, narrowed := true }
def FnExactCanMeetUptoSaid : Prop := fnExactCanMeetUptoRow.holds Try.pinned (OpenSpec.upto fnExactCanMeetSpec)

/-- 'laws.FnRopes', WHERE WHAT IT READS IS OF BULK AT MOST 1048576: true; the input reads as it did. -/
def fnRopesUptoRow : OpenClaim := { program := "ytfefkkpcjcnmcaa", sum := "8484adf350878154084be12884e433801571322dbaa58e58ce1c334990a506e9", func := "loop.example/g01345/laws.FnRopes", spec := "fnRopes", unfollowed := true, recurses := true, apart := false, narrowed := true }
def FnRopesUptoSaid : Prop := fnRopesUptoRow.holds Try.pinned (OpenSpec.upto fnRopesSpec)

end Rows
end Go.Proofs.Ytfefkkpcjcnmcaa
