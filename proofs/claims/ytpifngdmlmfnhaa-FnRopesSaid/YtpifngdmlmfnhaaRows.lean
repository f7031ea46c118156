/-
  No cell of these rows narrows 'for every input' (looked for: loops, veiled, ifaces, maps, wideKeys, modest, calm, conditions, laid).
  DERIVED. THE GIVEN ROWS OF THIS SEAT. 12 by the template 'for every input the law returns true; each argument reads behind the call as it read before'; 0 by the template 'total and deterministic' (their statements: YtpifngdmlmfnhaaTotals.lean).
  GIVEN WITH THE SEED: the statements are not yours to turn. If you find one false, say at which input.
  Laid BY PROGRAM, IN A SANDBOX (cutbox-rows.mjs): the forced cells as the released guide's own fill.sh prints them over the translation b9aef605aceff4f3… (all of the seat's roots in one cut). By AI agents, Wed Nov 11 2026. No macro, syntax, notation, axiom, sorry.
-/
import Derived.Test.YtpifngdmlmfnhaaChecked
import GoSem.Claim
import GoSem.ClaimJoined
import GoSem.ClaimMapViews
import Derived.JoinedTies
import Derived.KernelRfl
namespace Go.Proofs.Ytpifngdmlmfnhaa
/- THE CELL 'sum', in the pinned program and in every row, IS THE sha256 OF THE DUMP (.gsa) THAT YtpifngdmlmfnhaaProg.lean LOADS. Nothing in Lean hashes anything: it is a label: what it is worth is what the hold of that sum in a sandbox is worth. -/
noncomputable def Try.pinned : Pinned := { name := "ytpifngdmlmfnhaa", sum := "b9aef605aceff4f379cdffb71cf1ea6bc35b9cecd03cd0f1b0bb88a28071f978", checked := Try.checked }
namespace Rows
def none {H : Type} : Left H := { results := [], args := [] }

/-- 'laws.FnExactGreatestReach': WHATEVER THE INPUT: true; the input reads as it did. -/
def fnExactGreatestReachSpec : ChangeSpec := { name := "fnExactGreatestReach", fn := fun _ => fun
  | [d1, d2, d3] => { results := [.lit (.bool true)], args := [d1, d2, d3] }
  | _ => none }
def fnExactGreatestReachRow : OpenClaim := { program := "ytpifngdmlmfnhaa", sum := "b9aef605aceff4f379cdffb71cf1ea6bc35b9cecd03cd0f1b0bb88a28071f978", func := "loop.example/g01345/laws.FnExactGreatestReach", spec := "fnExactGreatestReach", unfollowed := true, recurses := true, plainKeys := false, apart := false }
def FnExactGreatestReachSaid : Prop := fnExactGreatestReachRow.holds Try.pinned (OpenSpec.ofChange fnExactGreatestReachSpec)

/-- ITS FALSE NEIGHBOUR: 'it returns false'. Refute it at one input. -/
def fnExactGreatestReachWrong : ChangeSpec := { name := "fnExactGreatestReach", fn := fun _ => fun
  | [d1, d2, d3] => { results := [.lit (.bool false)], args := [d1, d2, d3] }
  | _ => none }
def FnExactGreatestReachWrongFalsely : Prop := fnExactGreatestReachRow.holds Try.pinned (OpenSpec.ofChange fnExactGreatestReachWrong)

/-- 'laws.FnExactUncoveredBy': WHATEVER THE INPUT: true; the input reads as it did. -/
def fnExactUncoveredBySpec : ChangeSpec := { name := "fnExactUncoveredBy", fn := fun _ => fun
  | [d1, d2] => { results := [.lit (.bool true)], args := [d1, d2] }
  | _ => none }
def fnExactUncoveredByRow : OpenClaim := { program := "ytpifngdmlmfnhaa", sum := "b9aef605aceff4f379cdffb71cf1ea6bc35b9cecd03cd0f1b0bb88a28071f978", func := "loop.example/g01345/laws.FnExactUncoveredBy", spec := "fnExactUncoveredBy", unfollowed := true, recurses := true, plainKeys := false, apart := false }
def FnExactUncoveredBySaid : Prop := fnExactUncoveredByRow.holds Try.pinned (OpenSpec.ofChange fnExactUncoveredBySpec)

/-- ITS FALSE NEIGHBOUR: 'it returns false'. Refute it at one input. -/
def fnExactUncoveredByWrong : ChangeSpec := { name := "fnExactUncoveredBy", fn := fun _ => fun
  | [d1, d2] => { results := [.lit (.bool false)], args := [d1, d2] }
  | _ => none }
def FnExactUncoveredByWrongFalsely : Prop := fnExactUncoveredByRow.holds Try.pinned (OpenSpec.ofChange fnExactUncoveredByWrong)

/-- 'laws.FnExactSharedCells': WHATEVER THE INPUT: true; the input reads as it did. -/
def fnExactSharedCellsSpec : ChangeSpec := { name := "fnExactSharedCells", fn := fun _ => fun
  | [d1, d2] => { results := [.lit (.bool true)], args := [d1, d2] }
  | _ => none }
def fnExactSharedCellsRow : OpenClaim := { program := "ytpifngdmlmfnhaa", sum := "b9aef605aceff4f379cdffb71cf1ea6bc35b9cecd03cd0f1b0bb88a28071f978", func := "loop.example/g01345/laws.FnExactSharedCells", spec := "fnExactSharedCells", unfollowed := true, recurses := true, plainKeys := false, apart := false }
def FnExactSharedCellsSaid : Prop := fnExactSharedCellsRow.holds Try.pinned (OpenSpec.ofChange fnExactSharedCellsSpec)

/-- ITS FALSE NEIGHBOUR: 'it returns false'. Refute it at one input. -/
def fnExactSharedCellsWrong : ChangeSpec := { name := "fnExactSharedCells", fn := fun _ => fun
  | [d1, d2] => { results := [.lit (.bool false)], args := [d1, d2] }
  | _ => none }
def FnExactSharedCellsWrongFalsely : Prop := fnExactSharedCellsRow.holds Try.pinned (OpenSpec.ofChange fnExactSharedCellsWrong)

/-- 'laws.FnExactMeetingPairs': WHATEVER THE INPUT: true; the input reads as it did. -/
def fnExactMeetingPairsSpec : ChangeSpec := { name := "fnExactMeetingPairs", fn := fun _ => fun
  | [d1, d2] => { results := [.lit (.bool true)], args := [d1, d2] }
  | _ => none }
def fnExactMeetingPairsRow : OpenClaim := { program := "ytpifngdmlmfnhaa", sum := "b9aef605aceff4f379cdffb71cf1ea6bc35b9cecd03cd0f1b0bb88a28071f978", func := "loop.example/g01345/laws.FnExactMeetingPairs", spec := "fnExactMeetingPairs", unfollowed := true, recurses := true, plainKeys := false, apart := false }
def FnExactMeetingPairsSaid : Prop := fnExactMeetingPairsRow.holds Try.pinned (OpenSpec.ofChange fnExactMeetingPairsSpec)

/-- ITS FALSE NEIGHBOUR: 'it returns false'. Refute it at one input. -/
def fnExactMeetingPairsWrong : ChangeSpec := { name := "fnExactMeetingPairs", fn := fun _ => fun
  | [d1, d2] => { results := [.lit (.bool false)], args := [d1, d2] }
  | _ => none }
def FnExactMeetingPairsWrongFalsely : Prop := fnExactMeetingPairsRow.holds Try.pinned (OpenSpec.ofChange fnExactMeetingPairsWrong)

/-- 'laws.FnExactCanMeet': WHATEVER THE INPUT: true; the input reads as it did. -/
def fnExactCanMeetSpec : ChangeSpec := { name := "fnExactCanMeet", fn := fun _ => fun
  | [d1, d2] => { results := [.lit (.bool true)], args := [d1, d2] }
  | _ => none }
def fnExactCanMeetRow : OpenClaim := { program := "ytpifngdmlmfnhaa", sum := "b9aef605aceff4f379cdffb71cf1ea6bc35b9cecd03cd0f1b0bb88a28071f978", func := "loop.example/g01345/laws.FnExactCanMeet", spec := "fnExactCanMeet", unfollowed := true, recurses := true, plainKeys := false, apart := false }
def FnExactCanMeetSaid : Prop := fnExactCanMeetRow.holds Try.pinned (OpenSpec.ofChange fnExactCanMeetSpec)

/-- ITS FALSE NEIGHBOUR: 'it returns false'. Refute it at one input. -/
def fnExactCanMeetWrong : ChangeSpec := { name := "fnExactCanMeet", fn := fun _ => fun
  | [d1, d2] => { results := [.lit (.bool false)], args := [d1, d2] }
  | _ => none }
def FnExactCanMeetWrongFalsely : Prop := fnExactCanMeetRow.holds Try.pinned (OpenSpec.ofChange fnExactCanMeetWrong)

/-- 'laws.FnExactCheckApart': WHATEVER THE INPUT: true; the input reads as it did. -/
def fnExactCheckApartSpec : ChangeSpec := { name := "fnExactCheckApart", fn := fun _ => fun
  | [d1, d2, d3] => { results := [.lit (.bool true)], args := [d1, d2, d3] }
  | _ => none }
def fnExactCheckApartRow : OpenClaim := { program := "ytpifngdmlmfnhaa", sum := "b9aef605aceff4f379cdffb71cf1ea6bc35b9cecd03cd0f1b0bb88a28071f978", func := "loop.example/g01345/laws.FnExactCheckApart", spec := "fnExactCheckApart", unfollowed := true, recurses := true, plainKeys := false, apart := false }
def FnExactCheckApartSaid : Prop := fnExactCheckApartRow.holds Try.pinned (OpenSpec.ofChange fnExactCheckApartSpec)

/-- ITS FALSE NEIGHBOUR: 'it returns false'. Refute it at one input. -/
def fnExactCheckApartWrong : ChangeSpec := { name := "fnExactCheckApart", fn := fun _ => fun
  | [d1, d2, d3] => { results := [.lit (.bool false)], args := [d1, d2, d3] }
  | _ => none }
def FnExactCheckApartWrongFalsely : Prop := fnExactCheckApartRow.holds Try.pinned (OpenSpec.ofChange fnExactCheckApartWrong)

/-- 'laws.FnExactCheckPart': WHATEVER THE INPUT: true; the input reads as it did. -/
def fnExactCheckPartSpec : ChangeSpec := { name := "fnExactCheckPart", fn := fun _ => fun
  | [d1, d2, d3, d4] => { results := [.lit (.bool true)], args := [d1, d2, d3, d4] }
  | _ => none }
def fnExactCheckPartRow : OpenClaim := { program := "ytpifngdmlmfnhaa", sum := "b9aef605aceff4f379cdffb71cf1ea6bc35b9cecd03cd0f1b0bb88a28071f978", func := "loop.example/g01345/laws.FnExactCheckPart", spec := "fnExactCheckPart", unfollowed := true, recurses := true, plainKeys := false, apart := false }
def FnExactCheckPartSaid : Prop := fnExactCheckPartRow.holds Try.pinned (OpenSpec.ofChange fnExactCheckPartSpec)

/-- ITS FALSE NEIGHBOUR: 'it returns false'. Refute it at one input. -/
def fnExactCheckPartWrong : ChangeSpec := { name := "fnExactCheckPart", fn := fun _ => fun
  | [d1, d2, d3, d4] => { results := [.lit (.bool false)], args := [d1, d2, d3, d4] }
  | _ => none }
def FnExactCheckPartWrongFalsely : Prop := fnExactCheckPartRow.holds Try.pinned (OpenSpec.ofChange fnExactCheckPartWrong)

/-- 'laws.FnExactCheckWays': WHATEVER THE INPUT: true; the input reads as it did. -/
def fnExactCheckWaysSpec : ChangeSpec := { name := "fnExactCheckWays", fn := fun _ => fun
  | [d1, d2, d3, d4] => { results := [.lit (.bool true)], args := [d1, d2, d3, d4] }
  | _ => none }
def fnExactCheckWaysRow : OpenClaim := { program := "ytpifngdmlmfnhaa", sum := "b9aef605aceff4f379cdffb71cf1ea6bc35b9cecd03cd0f1b0bb88a28071f978", func := "loop.example/g01345/laws.FnExactCheckWays", spec := "fnExactCheckWays", unfollowed := true, recurses := true, plainKeys := false, apart := false }
def FnExactCheckWaysSaid : Prop := fnExactCheckWaysRow.holds Try.pinned (OpenSpec.ofChange fnExactCheckWaysSpec)

/-- ITS FALSE NEIGHBOUR: 'it returns false'. Refute it at one input. -/
def fnExactCheckWaysWrong : ChangeSpec := { name := "fnExactCheckWays", fn := fun _ => fun
  | [d1, d2, d3, d4] => { results := [.lit (.bool false)], args := [d1, d2, d3, d4] }
  | _ => none }
def FnExactCheckWaysWrongFalsely : Prop := fnExactCheckWaysRow.holds Try.pinned (OpenSpec.ofChange fnExactCheckWaysWrong)

/-- 'laws.FnExactDropIdle': WHATEVER THE INPUT: true; the input reads as it did. -/
def fnExactDropIdleSpec : ChangeSpec := { name := "fnExactDropIdle", fn := fun _ => fun
  | [d] => { results := [.lit (.bool true)], args := [d] }
  | _ => none }
def fnExactDropIdleRow : OpenClaim := { program := "ytpifngdmlmfnhaa", sum := "b9aef605aceff4f379cdffb71cf1ea6bc35b9cecd03cd0f1b0bb88a28071f978", func := "loop.example/g01345/laws.FnExactDropIdle", spec := "fnExactDropIdle", unfollowed := true, recurses := true, plainKeys := false, apart := false }
def FnExactDropIdleSaid : Prop := fnExactDropIdleRow.holds Try.pinned (OpenSpec.ofChange fnExactDropIdleSpec)

/-- ITS FALSE NEIGHBOUR: 'it returns false'. Refute it at one input. -/
def fnExactDropIdleWrong : ChangeSpec := { name := "fnExactDropIdle", fn := fun _ => fun
  | [d] => { results := [.lit (.bool false)], args := [d] }
  | _ => none }
def FnExactDropIdleWrongFalsely : Prop := fnExactDropIdleRow.holds Try.pinned (OpenSpec.ofChange fnExactDropIdleWrong)

/-- 'laws.FnRopes': WHATEVER THE INPUT: true; the input reads as it did. -/
def fnRopesSpec : ChangeSpec := { name := "fnRopes", fn := fun _ => fun
  | [d1, d2] => { results := [.lit (.bool true)], args := [d1, d2] }
  | _ => none }
def fnRopesRow : OpenClaim := { program := "ytpifngdmlmfnhaa", sum := "b9aef605aceff4f379cdffb71cf1ea6bc35b9cecd03cd0f1b0bb88a28071f978", func := "loop.example/g01345/laws.FnRopes", spec := "fnRopes", unfollowed := true, recurses := true, plainKeys := false, apart := false }
def FnRopesSaid : Prop := fnRopesRow.holds Try.pinned (OpenSpec.ofChange fnRopesSpec)

/-- ITS FALSE NEIGHBOUR: 'it returns false'. Refute it at one input. -/
def fnRopesWrong : ChangeSpec := { name := "fnRopes", fn := fun _ => fun
  | [d1, d2] => { results := [.lit (.bool false)], args := [d1, d2] }
  | _ => none }
def FnRopesWrongFalsely : Prop := fnRopesRow.holds Try.pinned (OpenSpec.ofChange fnRopesWrong)

/-- 'laws.FnExactChoiceOf': WHATEVER THE INPUT: true; the input reads as it did. -/
def fnExactChoiceOfSpec : ChangeSpec := { name := "fnExactChoiceOf", fn := fun _ => fun
  | [d1, d2, d3] => { results := [.lit (.bool true)], args := [d1, d2, d3] }
  | _ => none }
def fnExactChoiceOfRow : OpenClaim := { program := "ytpifngdmlmfnhaa", sum := "b9aef605aceff4f379cdffb71cf1ea6bc35b9cecd03cd0f1b0bb88a28071f978", func := "loop.example/g01345/laws.FnExactChoiceOf", spec := "fnExactChoiceOf", unfollowed := true, recurses := true, plainKeys := false, apart := false }
def FnExactChoiceOfSaid : Prop := fnExactChoiceOfRow.holds Try.pinned (OpenSpec.ofChange fnExactChoiceOfSpec)

/-- ITS FALSE NEIGHBOUR: 'it returns false'. Refute it at one input. -/
def fnExactChoiceOfWrong : ChangeSpec := { name := "fnExactChoiceOf", fn := fun _ => fun
  | [d1, d2, d3] => { results := [.lit (.bool false)], args := [d1, d2, d3] }
  | _ => none }
def FnExactChoiceOfWrongFalsely : Prop := fnExactChoiceOfRow.holds Try.pinned (OpenSpec.ofChange fnExactChoiceOfWrong)

/-- 'laws.FnGrazed': WHATEVER THE INPUT: true; the input reads as it did. -/
def fnGrazedSpec : ChangeSpec := { name := "fnGrazed", fn := fun _ => fun
  | [d1, d2] => { results := [.lit (.bool true)], args := [d1, d2] }
  | _ => none }
def fnGrazedRow : OpenClaim := { program := "ytpifngdmlmfnhaa", sum := "b9aef605aceff4f379cdffb71cf1ea6bc35b9cecd03cd0f1b0bb88a28071f978", func := "loop.example/g01345/laws.FnGrazed", spec := "fnGrazed", unfollowed := true, recurses := true, plainKeys := false, apart := false }
def FnGrazedSaid : Prop := fnGrazedRow.holds Try.pinned (OpenSpec.ofChange fnGrazedSpec)

/-- ITS FALSE NEIGHBOUR: 'it returns false'. Refute it at one input. -/
def fnGrazedWrong : ChangeSpec := { name := "fnGrazed", fn := fun _ => fun
  | [d1, d2] => { results := [.lit (.bool false)], args := [d1, d2] }
  | _ => none }
def FnGrazedWrongFalsely : Prop := fnGrazedRow.holds Try.pinned (OpenSpec.ofChange fnGrazedWrong)

/- THE SECOND FORM. 'bulk': how many values and letters a reading holds, each counted each time it is reached (what is shared counts as often as it is met; a slice's spare places count too). A statement '..UptoSaid' is the law's where the arguments, and the package variables that the reading takes, are together of bulk at most 1048576: NARROWER than '..Said'. Prove '..Said' where nothing that the law and all that it calls make is longer than what came in: it says more and counts as full. Else prove '..UptoSaid'. A law counts once. -/
mutual
def uptoBulk {H : Type} : DataW H → Nat
  | .lit (.string bytes) => bytes.length + 1
  | .lit _ => 1
  | .nil => 1
  | .ptr d => uptoBulk d + 1
  | .slice elems spare => uptoBulkAll elems + uptoBulkAll spare + 1
  | .agg parts => uptoBulkAll parts + 1
  | .iface _ d => uptoBulk d + 1
  | .map entries => uptoBulkEntries entries + 1
  | .held _ => 1
def uptoBulkAll {H : Type} : List (DataW H) → Nat
  | [] => 0
  | d :: r => uptoBulk d + uptoBulkAll r
def uptoBulkEntries {H : Type} : List (Lit × DataW H) → Nat
  | [] => 0
  | x :: r => uptoBulkEntry x + uptoBulkEntries r
def uptoBulkEntry {H : Type} : Lit × DataW H → Nat
  | (.string bytes, d) => bytes.length + uptoBulk d + 1
  | (_, d) => uptoBulk d + 1
 end
def uptoSmall : (H : Type) → List (DataW H) → Bool := fun _ ds => decide (uptoBulkAll ds ≤ 1048576)
def OpenSpec.upto (s : _root_.Go.ChangeSpec) : _root_.Go.OpenSpec := { _root_.Go.OpenSpec.ofChange s with cond := some uptoSmall }

/-- 'laws.FnExactGreatestReach', WHERE WHAT IT READS IS OF BULK AT MOST 1048576: true; the input reads as it did. -/
def fnExactGreatestReachUptoRow : OpenClaim := { program := "ytpifngdmlmfnhaa", sum := "b9aef605aceff4f379cdffb71cf1ea6bc35b9cecd03cd0f1b0bb88a28071f978", func := "loop.example/g01345/laws.FnExactGreatestReach", spec := "fnExactGreatestReach", unfollowed := true, recurses := true, plainKeys := false, apart := false, narrowed := true }
def FnExactGreatestReachUptoSaid : Prop := fnExactGreatestReachUptoRow.holds Try.pinned (OpenSpec.upto fnExactGreatestReachSpec)

/-- 'laws.FnExactUncoveredBy', WHERE WHAT IT READS IS OF BULK AT MOST 1048576: true; the input reads as it did. -/
def fnExactUncoveredByUptoRow : OpenClaim := { program := "ytpifngdmlmfnhaa", sum := "b9aef605aceff4f379cdffb71cf1ea6bc35b9cecd03cd0f1b0bb88a28071f978", func := "loop.example/g01345/laws.FnExactUncoveredBy", spec := "fnExactUncoveredBy", unfollowed := true, recurses := true, plainKeys := false, apart := false, narrowed := true }
def FnExactUncoveredByUptoSaid : Prop := fnExactUncoveredByUptoRow.holds Try.pinned (OpenSpec.upto fnExactUncoveredBySpec)

/-- 'laws.FnExactSharedCells', WHERE WHAT IT READS IS OF BULK AT MOST 1048576: true; the input reads as it did. -/
def fnExactSharedCellsUptoRow : OpenClaim := { program := "ytpifngdmlmfnhaa", sum := "b9aef605aceff4f379cdffb71cf1ea6bc35b9cecd03cd0f1b0bb88a28071f978", func := "loop.example/g01345/laws.FnExactSharedCells", spec := "fnExactSharedCells", unfollowed := true, recurses := true, plainKeys := false, apart := false, narrowed := true }
def FnExactSharedCellsUptoSaid : Prop := fnExactSharedCellsUptoRow.holds Try.pinned (OpenSpec.upto fnExactSharedCellsSpec)

/-- 'laws.FnExactMeetingPairs', WHERE WHAT IT READS IS OF BULK AT MOST 1048576: true; the input reads as it did. -/
def fnExactMeetingPairsUptoRow : OpenClaim := { program := "ytpifngdmlmfnhaa", sum := "b9aef605aceff4f379cdffb71cf1ea6bc35b9cecd03cd0f1b0bb88a28071f978", func := "loop.example/g01345/laws.FnExactMeetingPairs", spec := "fnExactMeetingPairs", unfollowed := true, recurses := true, plainKeys := false, apart := false, narrowed := true }
def FnExactMeetingPairsUptoSaid : Prop := fnExactMeetingPairsUptoRow.holds Try.pinned (OpenSpec.upto fnExactMeetingPairsSpec)

/-- 'laws.FnExactCanMeet', WHERE WHAT IT READS IS OF BULK AT MOST 1048576: true; the input reads as it did. -/
def fnExactCanMeetUptoRow : OpenClaim := { program := "ytpifngdmlmfnhaa", sum := "b9aef605aceff4f379cdffb71cf1ea6bc35b9cecd03cd0f1b0bb88a28071f978", func := "loop.example/g01345/laws.FnExactCanMeet", spec := "fnExactCanMeet", unfollowed := true, recurses := true, plainKeys := false, apart := false, narrowed := true }
def FnExactCanMeetUptoSaid : Prop := fnExactCanMeetUptoRow.holds Try.pinned (OpenSpec.upto fnExactCanMeetSpec)

/-- 'laws.FnExactCheckApart', WHERE WHAT IT READS IS OF BULK AT MOST 1048576: true; the input reads as it did. -/
def fnExactCheckApartUptoRow : OpenClaim := { program := "ytpifngdmlmfnhaa", sum := "b9aef605aceff4f379cdffb71cf1ea6bc35b9cecd03cd0f1b0bb88a28071f978", func := "loop.example/g01345/laws.FnExactCheckApart", spec := "fnExactCheckApart", unfollowed := true, recurses := true, plainKeys := false, apart := false, narrowed := true }
def FnExactCheckApartUptoSaid : Prop := fnExactCheckApartUptoRow.holds Try.pinned (OpenSpec.upto fnExactCheckApartSpec)

/-- 'laws.FnExactCheckPart', WHERE WHAT IT READS IS OF BULK AT MOST 1048576: true; the input reads as it did. -/
def fnExactCheckPartUptoRow : OpenClaim := { program := "ytpifngdmlmfnhaa", sum := "b9aef605aceff4f379cdffb71cf1ea6bc35b9cecd03cd0f1b0bb88a28071f978", func := "loop.example/g01345/laws.FnExactCheckPart", spec := "fnExactCheckPart", unfollowed := true, recurses := true, plainKeys := false, apart := false, narrowed := true }
def FnExactCheckPartUptoSaid : Prop := fnExactCheckPartUptoRow.holds Try.pinned (OpenSpec.upto fnExactCheckPartSpec)

/-- 'laws.FnExactCheckWays', WHERE WHAT IT READS IS OF BULK AT MOST 1048576: true; the input reads as it did. -/
def fnExactCheckWaysUptoRow : OpenClaim := { program := "ytpifngdmlmfnhaa", sum := "b9aef605aceff4f379cdffb71cf1ea6bc35b9cecd03cd0f1b0bb88a28071f978", func := "loop.example/g01345/laws.FnExactCheckWays", spec := "fnExactCheckWays", unfollowed := true, recurses := true, plainKeys := false, apart := false, narrowed := true }
def FnExactCheckWaysUptoSaid : Prop := fnExactCheckWaysUptoRow.holds Try.pinned (OpenSpec.upto fnExactCheckWaysSpec)

/-- 'laws.FnExactDropIdle', WHERE WHAT IT READS IS OF BULK AT MOST 1048576: true; the input reads as it did. -/
def fnExactDropIdleUptoRow : OpenClaim := { program := "ytpifngdmlmfnhaa", sum := "b9aef605aceff4f379cdffb71cf1ea6bc35b9cecd03cd0f1b0bb88a28071f978", func := "loop.example/g01345/laws.FnExactDropIdle", spec := "fnExactDropIdle", unfollowed := true, recurses := true, plainKeys := false, apart := false, narrowed := true }
def FnExactDropIdleUptoSaid : Prop := fnExactDropIdleUptoRow.holds Try.pinned (OpenSpec.upto fnExactDropIdleSpec)

/-- 'laws.FnRopes', WHERE WHAT IT READS IS OF BULK AT MOST 1048576: true; the input reads as it did. -/
def fnRopesUptoRow : OpenClaim := { program := "ytpifngdmlmfnhaa", sum := "b9aef605aceff4f379cdffb71cf1ea6bc35b9cecd03cd0f1b0bb88a28071f978", func := "loop.example/g01345/laws.FnRopes", spec := "fnRopes", unfollowed := true, recurses := true, plainKeys := false, apart := false, narrowed := true }
def FnRopesUptoSaid : Prop := fnRopesUptoRow.holds Try.pinned (OpenSpec.upto fnRopesSpec)

/-- 'laws.FnExactChoiceOf', WHERE WHAT IT READS IS OF BULK AT MOST 1048576: true; the input reads as it did. -/
def fnExactChoiceOfUptoRow : OpenClaim := { program := "ytpifngdmlmfnhaa", sum := "b9aef605aceff4f379cdffb71cf1ea6bc35b9cecd03cd0f1b0bb88a28071f978", func := "loop.example/g01345/laws.FnExactChoiceOf", spec := "fnExactChoiceOf", unfollowed := true, recurses := true, plainKeys := false, apart := false, narrowed := true }
def FnExactChoiceOfUptoSaid : Prop := fnExactChoiceOfUptoRow.holds Try.pinned (OpenSpec.upto fnExactChoiceOfSpec)

/-- 'laws.FnGrazed', WHERE WHAT IT READS IS OF BULK AT MOST 1048576: true; the input reads as it did. -/
def fnGrazedUptoRow : OpenClaim := { program := "ytpifngdmlmfnhaa", sum := "b9aef605aceff4f379cdffb71cf1ea6bc35b9cecd03cd0f1b0bb88a28071f978", func := "loop.example/g01345/laws.FnGrazed", spec := "fnGrazed", unfollowed := true, recurses := true, plainKeys := false, apart := false, narrowed := true }
def FnGrazedUptoSaid : Prop := fnGrazedUptoRow.holds Try.pinned (OpenSpec.upto fnGrazedSpec)

end Rows
end Go.Proofs.Ytpifngdmlmfnhaa
