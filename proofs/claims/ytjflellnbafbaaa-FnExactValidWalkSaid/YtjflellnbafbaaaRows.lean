/-
  No cell of these rows narrows 'for every input' (looked for: loops, veiled, ifaces, maps, wideKeys, modest, calm, conditions, laid).
  DERIVED. THE GIVEN ROWS OF THIS SEAT. 12 by the template 'for every input the law returns true; each argument reads behind the call as it read before'; 0 by the template 'total and deterministic' (their statements: YtjflellnbafbaaaTotals.lean).
  GIVEN WITH THE SEED: the statements are not yours to turn. If you find one false, say at which input.
  Laid BY PROGRAM, IN A SANDBOX (cutbox-rows.mjs): the forced cells as the released guide's own fill.sh prints them over the translation db961f2145e23f57… (all of the seat's roots in one cut). By AI agents, Wed Nov 11 2026. No macro, syntax, notation, axiom, sorry.
-/
import Derived.Test.YtjflellnbafbaaaChecked
import GoSem.Claim
import GoSem.ClaimJoined
import GoSem.ClaimMapViews
import Derived.JoinedTies
import Derived.KernelRfl
namespace Go.Proofs.Ytjflellnbafbaaa
/- THE CELL 'sum', in the pinned program and in every row, IS THE sha256 OF THE DUMP (.gsa) THAT YtjflellnbafbaaaProg.lean LOADS. Nothing in Lean hashes anything: it is a label: what it is worth is what the hold of that sum in a sandbox is worth. -/
noncomputable def Try.pinned : Pinned := { name := "ytjflellnbafbaaa", sum := "db961f2145e23f57878804656d77b94310eec7eacae630a62b79c0f182a8a008", checked := Try.checked }
namespace Rows
def none {H : Type} : Left H := { results := [], args := [] }

/-- 'laws.FnExactSquareOf': WHATEVER THE INPUT: true; the input reads as it did. -/
def fnExactSquareOfSpec : ChangeSpec := { name := "fnExactSquareOf", fn := fun _ => fun
  | [d1, d2] => { results := [.lit (.bool true)], args := [d1, d2] }
  | _ => none }
def fnExactSquareOfRow : OpenClaim := { program := "ytjflellnbafbaaa", sum := "db961f2145e23f57878804656d77b94310eec7eacae630a62b79c0f182a8a008", func := "loop.example/g01345/laws.FnExactSquareOf", spec := "fnExactSquareOf", apart := false }
def FnExactSquareOfSaid : Prop := fnExactSquareOfRow.holds Try.pinned (OpenSpec.ofChange fnExactSquareOfSpec)

/-- ITS FALSE NEIGHBOUR: 'it returns false'. Refute it at one input. -/
def fnExactSquareOfWrong : ChangeSpec := { name := "fnExactSquareOf", fn := fun _ => fun
  | [d1, d2] => { results := [.lit (.bool false)], args := [d1, d2] }
  | _ => none }
def FnExactSquareOfWrongFalsely : Prop := fnExactSquareOfRow.holds Try.pinned (OpenSpec.ofChange fnExactSquareOfWrong)

/-- 'laws.FnExactSameStakes': WHATEVER THE INPUT: true; the input reads as it did. -/
def fnExactSameStakesSpec : ChangeSpec := { name := "fnExactSameStakes", fn := fun _ => fun
  | [d1, d2] => { results := [.lit (.bool true)], args := [d1, d2] }
  | _ => none }
def fnExactSameStakesRow : OpenClaim := { program := "ytjflellnbafbaaa", sum := "db961f2145e23f57878804656d77b94310eec7eacae630a62b79c0f182a8a008", func := "loop.example/g01345/laws.FnExactSameStakes", spec := "fnExactSameStakes", apart := false }
def FnExactSameStakesSaid : Prop := fnExactSameStakesRow.holds Try.pinned (OpenSpec.ofChange fnExactSameStakesSpec)

/-- ITS FALSE NEIGHBOUR: 'it returns false'. Refute it at one input. -/
def fnExactSameStakesWrong : ChangeSpec := { name := "fnExactSameStakes", fn := fun _ => fun
  | [d1, d2] => { results := [.lit (.bool false)], args := [d1, d2] }
  | _ => none }
def FnExactSameStakesWrongFalsely : Prop := fnExactSameStakesRow.holds Try.pinned (OpenSpec.ofChange fnExactSameStakesWrong)

/-- 'laws.FnExactValidStakes': WHATEVER THE INPUT: true; the input reads as it did. -/
def fnExactValidStakesSpec : ChangeSpec := { name := "fnExactValidStakes", fn := fun _ => fun
  | [d1, d2] => { results := [.lit (.bool true)], args := [d1, d2] }
  | _ => none }
def fnExactValidStakesRow : OpenClaim := { program := "ytjflellnbafbaaa", sum := "db961f2145e23f57878804656d77b94310eec7eacae630a62b79c0f182a8a008", func := "loop.example/g01345/laws.FnExactValidStakes", spec := "fnExactValidStakes", unfollowed := true, recurses := true, apart := false }
def FnExactValidStakesSaid : Prop := fnExactValidStakesRow.holds Try.pinned (OpenSpec.ofChange fnExactValidStakesSpec)

/-- ITS FALSE NEIGHBOUR: 'it returns false'. Refute it at one input. -/
def fnExactValidStakesWrong : ChangeSpec := { name := "fnExactValidStakes", fn := fun _ => fun
  | [d1, d2] => { results := [.lit (.bool false)], args := [d1, d2] }
  | _ => none }
def FnExactValidStakesWrongFalsely : Prop := fnExactValidStakesRow.holds Try.pinned (OpenSpec.ofChange fnExactValidStakesWrong)

/-- 'laws.FnExactValidGoats': WHATEVER THE INPUT: true; the input reads as it did. -/
def fnExactValidGoatsSpec : ChangeSpec := { name := "fnExactValidGoats", fn := fun _ => fun
  | [d1, d2] => { results := [.lit (.bool true)], args := [d1, d2] }
  | _ => none }
def fnExactValidGoatsRow : OpenClaim := { program := "ytjflellnbafbaaa", sum := "db961f2145e23f57878804656d77b94310eec7eacae630a62b79c0f182a8a008", func := "loop.example/g01345/laws.FnExactValidGoats", spec := "fnExactValidGoats", unfollowed := true, recurses := true, apart := false }
def FnExactValidGoatsSaid : Prop := fnExactValidGoatsRow.holds Try.pinned (OpenSpec.ofChange fnExactValidGoatsSpec)

/-- ITS FALSE NEIGHBOUR: 'it returns false'. Refute it at one input. -/
def fnExactValidGoatsWrong : ChangeSpec := { name := "fnExactValidGoats", fn := fun _ => fun
  | [d1, d2] => { results := [.lit (.bool false)], args := [d1, d2] }
  | _ => none }
def FnExactValidGoatsWrongFalsely : Prop := fnExactValidGoatsRow.holds Try.pinned (OpenSpec.ofChange fnExactValidGoatsWrong)

/-- 'laws.FnExactTieGoat': WHATEVER THE INPUT: true; the input reads as it did. -/
def fnExactTieGoatSpec : ChangeSpec := { name := "fnExactTieGoat", fn := fun _ => fun
  | [d1, d2, d3] => { results := [.lit (.bool true)], args := [d1, d2, d3] }
  | _ => none }
def fnExactTieGoatRow : OpenClaim := { program := "ytjflellnbafbaaa", sum := "db961f2145e23f57878804656d77b94310eec7eacae630a62b79c0f182a8a008", func := "loop.example/g01345/laws.FnExactTieGoat", spec := "fnExactTieGoat", unfollowed := true, recurses := true, apart := false }
def FnExactTieGoatSaid : Prop := fnExactTieGoatRow.holds Try.pinned (OpenSpec.ofChange fnExactTieGoatSpec)

/-- ITS FALSE NEIGHBOUR: 'it returns false'. Refute it at one input. -/
def fnExactTieGoatWrong : ChangeSpec := { name := "fnExactTieGoat", fn := fun _ => fun
  | [d1, d2, d3] => { results := [.lit (.bool false)], args := [d1, d2, d3] }
  | _ => none }
def FnExactTieGoatWrongFalsely : Prop := fnExactTieGoatRow.holds Try.pinned (OpenSpec.ofChange fnExactTieGoatWrong)

/-- 'laws.FnExactNeedOf': WHATEVER THE INPUT: true; the input reads as it did. -/
def fnExactNeedOfSpec : ChangeSpec := { name := "fnExactNeedOf", fn := fun _ => fun
  | [d1, d2] => { results := [.lit (.bool true)], args := [d1, d2] }
  | _ => none }
def fnExactNeedOfRow : OpenClaim := { program := "ytjflellnbafbaaa", sum := "db961f2145e23f57878804656d77b94310eec7eacae630a62b79c0f182a8a008", func := "loop.example/g01345/laws.FnExactNeedOf", spec := "fnExactNeedOf", unfollowed := true, recurses := true, apart := false }
def FnExactNeedOfSaid : Prop := fnExactNeedOfRow.holds Try.pinned (OpenSpec.ofChange fnExactNeedOfSpec)

/-- ITS FALSE NEIGHBOUR: 'it returns false'. Refute it at one input. -/
def fnExactNeedOfWrong : ChangeSpec := { name := "fnExactNeedOf", fn := fun _ => fun
  | [d1, d2] => { results := [.lit (.bool false)], args := [d1, d2] }
  | _ => none }
def FnExactNeedOfWrongFalsely : Prop := fnExactNeedOfRow.holds Try.pinned (OpenSpec.ofChange fnExactNeedOfWrong)

/-- 'laws.FnExactValidWalk': WHATEVER THE INPUT: true; the input reads as it did. -/
def fnExactValidWalkSpec : ChangeSpec := { name := "fnExactValidWalk", fn := fun _ => fun
  | [d1, d2, d3] => { results := [.lit (.bool true)], args := [d1, d2, d3] }
  | _ => none }
def fnExactValidWalkRow : OpenClaim := { program := "ytjflellnbafbaaa", sum := "db961f2145e23f57878804656d77b94310eec7eacae630a62b79c0f182a8a008", func := "loop.example/g01345/laws.FnExactValidWalk", spec := "fnExactValidWalk", apart := false }
def FnExactValidWalkSaid : Prop := fnExactValidWalkRow.holds Try.pinned (OpenSpec.ofChange fnExactValidWalkSpec)

/-- ITS FALSE NEIGHBOUR: 'it returns false'. Refute it at one input. -/
def fnExactValidWalkWrong : ChangeSpec := { name := "fnExactValidWalk", fn := fun _ => fun
  | [d1, d2, d3] => { results := [.lit (.bool false)], args := [d1, d2, d3] }
  | _ => none }
def FnExactValidWalkWrongFalsely : Prop := fnExactValidWalkRow.holds Try.pinned (OpenSpec.ofChange fnExactValidWalkWrong)

/-- 'laws.FnExactSetHurdle': WHATEVER THE INPUT: true; the input reads as it did. -/
def fnExactSetHurdleSpec : ChangeSpec := { name := "fnExactSetHurdle", fn := fun _ => fun
  | [d1, d2, d3, d4] => { results := [.lit (.bool true)], args := [d1, d2, d3, d4] }
  | _ => none }
def fnExactSetHurdleRow : OpenClaim := { program := "ytjflellnbafbaaa", sum := "db961f2145e23f57878804656d77b94310eec7eacae630a62b79c0f182a8a008", func := "loop.example/g01345/laws.FnExactSetHurdle", spec := "fnExactSetHurdle", unfollowed := true, recurses := true, apart := false }
def FnExactSetHurdleSaid : Prop := fnExactSetHurdleRow.holds Try.pinned (OpenSpec.ofChange fnExactSetHurdleSpec)

/-- ITS FALSE NEIGHBOUR: 'it returns false'. Refute it at one input. -/
def fnExactSetHurdleWrong : ChangeSpec := { name := "fnExactSetHurdle", fn := fun _ => fun
  | [d1, d2, d3, d4] => { results := [.lit (.bool false)], args := [d1, d2, d3, d4] }
  | _ => none }
def FnExactSetHurdleWrongFalsely : Prop := fnExactSetHurdleRow.holds Try.pinned (OpenSpec.ofChange fnExactSetHurdleWrong)

/-- 'laws.FnExactMirrorPasture': WHATEVER THE INPUT: true; the input reads as it did. -/
def fnExactMirrorPastureSpec : ChangeSpec := { name := "fnExactMirrorPasture", fn := fun _ => fun
  | [d] => { results := [.lit (.bool true)], args := [d] }
  | _ => none }
def fnExactMirrorPastureRow : OpenClaim := { program := "ytjflellnbafbaaa", sum := "db961f2145e23f57878804656d77b94310eec7eacae630a62b79c0f182a8a008", func := "loop.example/g01345/laws.FnExactMirrorPasture", spec := "fnExactMirrorPasture", unfollowed := true, recurses := true, apart := false }
def FnExactMirrorPastureSaid : Prop := fnExactMirrorPastureRow.holds Try.pinned (OpenSpec.ofChange fnExactMirrorPastureSpec)

/-- ITS FALSE NEIGHBOUR: 'it returns false'. Refute it at one input. -/
def fnExactMirrorPastureWrong : ChangeSpec := { name := "fnExactMirrorPasture", fn := fun _ => fun
  | [d] => { results := [.lit (.bool false)], args := [d] }
  | _ => none }
def FnExactMirrorPastureWrongFalsely : Prop := fnExactMirrorPastureRow.holds Try.pinned (OpenSpec.ofChange fnExactMirrorPastureWrong)

/-- 'laws.FnExactTurnPasture': WHATEVER THE INPUT: true; the input reads as it did. -/
def fnExactTurnPastureSpec : ChangeSpec := { name := "fnExactTurnPasture", fn := fun _ => fun
  | [d] => { results := [.lit (.bool true)], args := [d] }
  | _ => none }
def fnExactTurnPastureRow : OpenClaim := { program := "ytjflellnbafbaaa", sum := "db961f2145e23f57878804656d77b94310eec7eacae630a62b79c0f182a8a008", func := "loop.example/g01345/laws.FnExactTurnPasture", spec := "fnExactTurnPasture", unfollowed := true, recurses := true, apart := false }
def FnExactTurnPastureSaid : Prop := fnExactTurnPastureRow.holds Try.pinned (OpenSpec.ofChange fnExactTurnPastureSpec)

/-- ITS FALSE NEIGHBOUR: 'it returns false'. Refute it at one input. -/
def fnExactTurnPastureWrong : ChangeSpec := { name := "fnExactTurnPasture", fn := fun _ => fun
  | [d] => { results := [.lit (.bool false)], args := [d] }
  | _ => none }
def FnExactTurnPastureWrongFalsely : Prop := fnExactTurnPastureRow.holds Try.pinned (OpenSpec.ofChange fnExactTurnPastureWrong)

/-- 'laws.FnExactAddHurdles': WHATEVER THE INPUT: true; the input reads as it did. -/
def fnExactAddHurdlesSpec : ChangeSpec := { name := "fnExactAddHurdles", fn := fun _ => fun
  | [d1, d2] => { results := [.lit (.bool true)], args := [d1, d2] }
  | _ => none }
def fnExactAddHurdlesRow : OpenClaim := { program := "ytjflellnbafbaaa", sum := "db961f2145e23f57878804656d77b94310eec7eacae630a62b79c0f182a8a008", func := "loop.example/g01345/laws.FnExactAddHurdles", spec := "fnExactAddHurdles", unfollowed := true, recurses := true, apart := false }
def FnExactAddHurdlesSaid : Prop := fnExactAddHurdlesRow.holds Try.pinned (OpenSpec.ofChange fnExactAddHurdlesSpec)

/-- ITS FALSE NEIGHBOUR: 'it returns false'. Refute it at one input. -/
def fnExactAddHurdlesWrong : ChangeSpec := { name := "fnExactAddHurdles", fn := fun _ => fun
  | [d1, d2] => { results := [.lit (.bool false)], args := [d1, d2] }
  | _ => none }
def FnExactAddHurdlesWrongFalsely : Prop := fnExactAddHurdlesRow.holds Try.pinned (OpenSpec.ofChange fnExactAddHurdlesWrong)

/-- 'laws.FnExactTakeHurdles': WHATEVER THE INPUT: true; the input reads as it did. -/
def fnExactTakeHurdlesSpec : ChangeSpec := { name := "fnExactTakeHurdles", fn := fun _ => fun
  | [d1, d2] => { results := [.lit (.bool true)], args := [d1, d2] }
  | _ => none }
def fnExactTakeHurdlesRow : OpenClaim := { program := "ytjflellnbafbaaa", sum := "db961f2145e23f57878804656d77b94310eec7eacae630a62b79c0f182a8a008", func := "loop.example/g01345/laws.FnExactTakeHurdles", spec := "fnExactTakeHurdles", unfollowed := true, recurses := true, apart := false }
def FnExactTakeHurdlesSaid : Prop := fnExactTakeHurdlesRow.holds Try.pinned (OpenSpec.ofChange fnExactTakeHurdlesSpec)

/-- ITS FALSE NEIGHBOUR: 'it returns false'. Refute it at one input. -/
def fnExactTakeHurdlesWrong : ChangeSpec := { name := "fnExactTakeHurdles", fn := fun _ => fun
  | [d1, d2] => { results := [.lit (.bool false)], args := [d1, d2] }
  | _ => none }
def FnExactTakeHurdlesWrongFalsely : Prop := fnExactTakeHurdlesRow.holds Try.pinned (OpenSpec.ofChange fnExactTakeHurdlesWrong)

/- THE SECOND FORM. 'bulk': how many values and letters a reading holds, each counted each time it is reached (what is shared counts as often as it is met; a slice's spare places count too). A statement '..UptoSaid' is the law's where the arguments, and the package variables that the reading takes, are together of bulk at most 1048576: NARROWER than '..Said'. Prove '..Said' where nothing that the law and all that it calls make is longer than what came in: it says more and counts as full. Else prove '..UptoSaid'. A law counts once. -/
mutual
def uptoBulk {H : Type} : DataW H → Nat
  | .lit (.string bytes) => bytes.length + 1
  | .lit _ => 1
  | .nil => 1
  | .ptr d => uptoBulk d + 1
  | .slice elems spare => uptoBulkAll elems + uptoBulkAll spare + 1
  | .agg parts => uptoBulkAll parts + 1
  | .iface _ d => uptoBulk d + 1
  | .map entries => uptoBulkEntries entries + 1
  | .held _ => 1
def uptoBulkAll {H : Type} : List (DataW H) → Nat
  | [] => 0
  | d :: r => uptoBulk d + uptoBulkAll r
def uptoBulkEntries {H : Type} : List (Lit × DataW H) → Nat
  | [] => 0
  | x :: r => uptoBulkEntry x + uptoBulkEntries r
def uptoBulkEntry {H : Type} : Lit × DataW H → Nat
  | (.string bytes, d) => bytes.length + uptoBulk d + 1
  | (_, d) => uptoBulk d + 1
 end
def uptoSmall : (H : Type) → List (DataW H) → Bool := fun _ ds => decide (uptoBulkAll ds ≤ 1048576)
def OpenSpec.upto (s : _root_.Go.ChangeSpec) : _root_.Go.OpenSpec := { _root_.Go.OpenSpec.ofChange s with cond := some uptoSmall }

/-- 'laws.FnExactSquareOf', WHERE WHAT IT READS IS OF BULK AT MOST 1048576: true; the input reads as it did. -/
def fnExactSquareOfUptoRow : OpenClaim := { program := "ytjflellnbafbaaa", sum := "db961f2145e23f57878804656d77b94310eec7eacae630a62b79c0f182a8a008", func := "loop.example/g01345/laws.FnExactSquareOf", spec := "fnExactSquareOf", apart := false, narrowed := true }
def FnExactSquareOfUptoSaid : Prop := fnExactSquareOfUptoRow.holds Try.pinned (OpenSpec.upto fnExactSquareOfSpec)

/-- 'laws.FnExactSameStakes', WHERE WHAT IT READS IS OF BULK AT MOST 1048576: true; the input reads as it did. -/
def fnExactSameStakesUptoRow : OpenClaim := { program := "ytjflellnbafbaaa", sum := "db961f2145e23f57878804656d77b94310eec7eacae630a62b79c0f182a8a008", func := "loop.example/g01345/laws.FnExactSameStakes", spec := "fnExactSameStakes", apart := false, narrowed := true }
def FnExactSameStakesUptoSaid : Prop := fnExactSameStakesUptoRow.holds Try.pinned (OpenSpec.upto fnExactSameStakesSpec)

/-- 'laws.FnExactValidStakes', WHERE WHAT IT READS IS OF BULK AT MOST 1048576: true; the input reads as it did. -/
def fnExactValidStakesUptoRow : OpenClaim := { program := "ytjflellnbafbaaa", sum := "db961f2145e23f57878804656d77b94310eec7eacae630a62b79c0f182a8a008", func := "loop.example/g01345/laws.FnExactValidStakes", spec := "fnExactValidStakes", unfollowed := true, recurses := true, apart := false, narrowed := true }
def FnExactValidStakesUptoSaid : Prop := fnExactValidStakesUptoRow.holds Try.pinned (OpenSpec.upto fnExactValidStakesSpec)

/-- 'laws.FnExactValidGoats', WHERE WHAT IT READS IS OF BULK AT MOST 1048576: true; the input reads as it did. -/
def fnExactValidGoatsUptoRow : OpenClaim := { program := "ytjflellnbafbaaa", sum := "db961f2145e23f57878804656d77b94310eec7eacae630a62b79c0f182a8a008", func := "loop.example/g01345/laws.FnExactValidGoats", spec := "fnExactValidGoats", unfollowed := true, recurses := true, apart := false, narrowed := true }
def FnExactValidGoatsUptoSaid : Prop := fnExactValidGoatsUptoRow.holds Try.pinned (OpenSpec.upto fnExactValidGoatsSpec)

/-- 'laws.FnExactTieGoat', WHERE WHAT IT READS IS OF BULK AT MOST 1048576: true; the input reads as it did. -/
def fnExactTieGoatUptoRow : OpenClaim := { program := "ytjflellnbafbaaa", sum := "db961f2145e23f57878804656d77b94310eec7eacae630a62b79c0f182a8a008", func := "loop.example/g01345/laws.FnExactTieGoat", spec := "fnExactTieGoat", unfollowed := true, recurses := true, apart := false, narrowed := true }
def FnExactTieGoatUptoSaid : Prop := fnExactTieGoatUptoRow.holds Try.pinned (OpenSpec.upto fnExactTieGoatSpec)

/-- 'laws.FnExactNeedOf', WHERE WHAT IT READS IS OF BULK AT MOST 1048576: true; the input reads as it did. -/
def fnExactNeedOfUptoRow : OpenClaim := { program := "ytjflellnbafbaaa", sum := "db961f2145e23f57878804656d77b94310eec7eacae630a62b79c0f182a8a008", func := "loop.example/g01345/laws.FnExactNeedOf", spec := "fnExactNeedOf", unfollowed := true, recurses := true, apart := false, narrowed := true }
def FnExactNeedOfUptoSaid : Prop := fnExactNeedOfUptoRow.holds Try.pinned (OpenSpec.upto fnExactNeedOfSpec)

/-- 'laws.FnExactValidWalk', WHERE WHAT IT READS IS OF BULK AT MOST 1048576: true; the input reads as it did. -/
def fnExactValidWalkUptoRow : OpenClaim := { program := "ytjflellnbafbaaa", sum := "db961f2145e23f57878804656d77b94310eec7eacae630a62b79c0f182a8a008", func := "loop.example/g01345/laws.FnExactValidWalk", spec := "fnExactValidWalk", apart := false, narrowed := true }
def FnExactValidWalkUptoSaid : Prop := fnExactValidWalkUptoRow.holds Try.pinned (OpenSpec.upto fnExactValidWalkSpec)

/-- 'laws.FnExactSetHurdle', WHERE WHAT IT READS IS OF BULK AT MOST 1048576: true; the input reads as it did. -/
def fnExactSetHurdleUptoRow : OpenClaim := { program := "ytjflellnbafbaaa", sum := "db961f2145e23f57878804656d77b94310eec7eacae630a62b79c0f182a8a008", func := "loop.example/g01345/laws.FnExactSetHurdle", spec := "fnExactSetHurdle", unfollowed := true, recurses := true, apart := false, narrowed := true }
def FnExactSetHurdleUptoSaid : Prop := fnExactSetHurdleUptoRow.holds Try.pinned (OpenSpec.upto fnExactSetHurdleSpec)

/-- 'laws.FnExactMirrorPasture', WHERE WHAT IT READS IS OF BULK AT MOST 1048576: true; the input reads as it did. -/
def fnExactMirrorPastureUptoRow : OpenClaim := { program := "ytjflellnbafbaaa", sum := "db961f2145e23f57878804656d77b94310eec7eacae630a62b79c0f182a8a008", func := "loop.example/g01345/laws.FnExactMirrorPasture", spec := "fnExactMirrorPasture", unfollowed := true, recurses := true, apart := false, narrowed := true }
def FnExactMirrorPastureUptoSaid : Prop := fnExactMirrorPastureUptoRow.holds Try.pinned (OpenSpec.upto fnExactMirrorPastureSpec)

/-- 'laws.FnExactTurnPasture', WHERE WHAT IT READS IS OF BULK AT MOST 1048576: true; the input reads as it did. -/
def fnExactTurnPastureUptoRow : OpenClaim := { program := "ytjflellnbafbaaa", sum := "db961f2145e23f57878804656d77b94310eec7eacae630a62b79c0f182a8a008", func := "loop.example/g01345/laws.FnExactTurnPasture", spec := "fnExactTurnPasture", unfollowed := true, recurses := true, apart := false, narrowed := true }
def FnExactTurnPastureUptoSaid : Prop := fnExactTurnPastureUptoRow.holds Try.pinned (OpenSpec.upto fnExactTurnPastureSpec)

/-- 'laws.FnExactAddHurdles', WHERE WHAT IT READS IS OF BULK AT MOST 1048576: true; the input reads as it did. -/
def fnExactAddHurdlesUptoRow : OpenClaim := { program := "ytjflellnbafbaaa", sum := "db961f2145e23f57878804656d77b94310eec7eacae630a62b79c0f182a8a008", func := "loop.example/g01345/laws.FnExactAddHurdles", spec := "fnExactAddHurdles", unfollowed := true, recurses := true, apart := false, narrowed := true }
def FnExactAddHurdlesUptoSaid : Prop := fnExactAddHurdlesUptoRow.holds Try.pinned (OpenSpec.upto fnExactAddHurdlesSpec)

/-- 'laws.FnExactTakeHurdles', WHERE WHAT IT READS IS OF BULK AT MOST 1048576: true; the input reads as it did. -/
def fnExactTakeHurdlesUptoRow : OpenClaim := { program := "ytjflellnbafbaaa", sum := "db961f2145e23f57878804656d77b94310eec7eacae630a62b79c0f182a8a008", func := "loop.example/g01345/laws.FnExactTakeHurdles", spec := "fnExactTakeHurdles", unfollowed := true, recurses := true, apart := false, narrowed := true }
def FnExactTakeHurdlesUptoSaid : Prop := fnExactTakeHurdlesUptoRow.holds Try.pinned (OpenSpec.upto fnExactTakeHurdlesSpec)

end Rows
end Go.Proofs.Ytjflellnbafbaaa
