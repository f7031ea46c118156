/-
  No cell of these rows narrows 'for every input' (looked for: loops, veiled, ifaces, maps, wideKeys, modest, calm, conditions, laid).
  DERIVED. THE GIVEN ROWS OF THIS SEAT. 3 by the template 'for every input the law returns true; each argument reads behind the call as it read before'; 0 by the template 'total and deterministic' (their statements: YtnfdefeafhepkaaTotals.lean).
  GIVEN WITH THE SEED: the statements are not yours to turn. If you find one false, say at which input.
  Laid BY PROGRAM, IN A SANDBOX (cutbox-rows.mjs): the forced cells as the released guide's own fill.sh prints them over the translation 27d6a54f93a7042d… (all of the seat's roots in one cut). By AI agents, Wed Nov 11 2026. No macro, syntax, notation, axiom, sorry.
-/
import Derived.Test.YtnfdefeafhepkaaChecked
import GoSem.Claim
import GoSem.ClaimJoined
import GoSem.ClaimMapViews
import Derived.JoinedTies
import Derived.KernelRfl
namespace Go.Proofs.Ytnfdefeafhepkaa
/- THE CELL 'sum', in the pinned program and in every row, IS THE sha256 OF THE DUMP (.gsa) THAT YtnfdefeafhepkaaProg.lean LOADS. Nothing in Lean hashes anything: it is a label: what it is worth is what the hold of that sum in a sandbox is worth. -/
noncomputable def Try.pinned : Pinned := { name := "ytnfdefeafhepkaa", sum := "27d6a54f93a7042d05e6f754cf6bc0303632bb26cb0e202ba1da213589cb84c9", checked := Try.checked }
namespace Rows
def none {H : Type} : Left H := { results := [], args := [] }

/-- 'laws.FnExactCheckWays': WHATEVER THE INPUT: true; the input reads as it did. -/
def fnExactCheckWaysSpec : ChangeSpec := { name := "fnExactCheckWays", fn := fun _ => fun
  | [d1, d2, d3, d4] => { results := [.lit (.bool true)], args := [d1, d2, d3, d4] }
  | _ => none }
def fnExactCheckWaysRow : OpenClaim := { program := "ytnfdefeafhepkaa", sum := "27d6a54f93a7042d05e6f754cf6bc0303632bb26cb0e202ba1da213589cb84c9", func := "loop.example/g01345/laws.FnExactCheckWays", spec := "fnExactCheckWays", unfollowed := true, recurses := true, plainKeys := false, apart := false }
def FnExactCheckWaysSaid : Prop := fnExactCheckWaysRow.holds Try.pinned (OpenSpec.ofChange fnExactCheckWaysSpec)

/-- ITS FALSE NEIGHBOUR: 'it returns false'. Refute it at one input. -/
def fnExactCheckWaysWrong : ChangeSpec := { name := "fnExactCheckWays", fn := fun _ => fun
  | [d1, d2, d3, d4] => { results := [.lit (.bool false)], args := [d1, d2, d3, d4] }
  | _ => none }
def FnExactCheckWaysWrongFalsely : Prop := fnExactCheckWaysRow.holds Try.pinned (OpenSpec.ofChange fnExactCheckWaysWrong)

/-- 'laws.FnExactDropIdle': WHATEVER THE INPUT: true; the input reads as it did. -/
def fnExactDropIdleSpec : ChangeSpec := { name := "fnExactDropIdle", fn := fun _ => fun
  | [d] => { results := [.lit (.bool true)], args := [d] }
  | _ => none }
def fnExactDropIdleRow : OpenClaim := { program := "ytnfdefeafhepkaa", sum := "27d6a54f93a7042d05e6f754cf6bc0303632bb26cb0e202ba1da213589cb84c9", func := "loop.example/g01345/laws.FnExactDropIdle", spec := "fnExactDropIdle", unfollowed := true, recurses := true, plainKeys := false, apart := false }
def FnExactDropIdleSaid : Prop := fnExactDropIdleRow.holds Try.pinned (OpenSpec.ofChange fnExactDropIdleSpec)

/-- ITS FALSE NEIGHBOUR: 'it returns false'. Refute it at one input. -/
def fnExactDropIdleWrong : ChangeSpec := { name := "fnExactDropIdle", fn := fun _ => fun
  | [d] => { results := [.lit (.bool false)], args := [d] }
  | _ => none }
def FnExactDropIdleWrongFalsely : Prop := fnExactDropIdleRow.holds Try.pinned (OpenSpec.ofChange fnExactDropIdleWrong)

/-- 'laws.FnGrazed': WHATEVER THE INPUT: true; the input reads as it did. -/
def fnGrazedSpec : ChangeSpec := { name := "fnGrazed", fn := fun _ => fun
  | [d1, d2] => { results := [.lit (.bool true)], args := [d1, d2] }
  | _ => none }
def fnGrazedRow : OpenClaim := { program := "ytnfdefeafhepkaa", sum := "27d6a54f93a7042d05e6f754cf6bc0303632bb26cb0e202ba1da213589cb84c9", func := "loop.example/g01345/laws.FnGrazed", spec := "fnGrazed", unfollowed := true, recurses := true, plainKeys := false, apart := false }
def FnGrazedSaid : Prop := fnGrazedRow.holds Try.pinned (OpenSpec.ofChange fnGrazedSpec)

/-- ITS FALSE NEIGHBOUR: 'it returns false'. Refute it at one input. -/
def fnGrazedWrong : ChangeSpec := { name := "fnGrazed", fn := fun _ => fun
  | [d1, d2] => { results := [.lit (.bool false)], args := [d1, d2] }
  | _ => none }
def FnGrazedWrongFalsely : Prop := fnGrazedRow.holds Try.pinned (OpenSpec.ofChange fnGrazedWrong)

/- THE SECOND FORM. 'bulk': how many values and letters a reading holds, each counted each time it is reached (what is shared counts as often as it is met; a slice's spare places count too). A statement '..UptoSaid' is the law's where the arguments, and the package variables that the reading takes, are together of bulk at most 1048576: NARROWER than '..Said'. Prove '..Said' where nothing that the law and all that it calls make is longer than what came in: it says more and counts as full. Else prove '..UptoSaid'. A law counts once. -/
mutual
def uptoBulk {H : Type} : DataW H → Nat
  | .lit (.string bytes) => bytes.length + 1
  | .lit _ => 1
  | .nil => 1
  | .ptr d => uptoBulk d + 1
  | .slice elems spare => uptoBulkAll elems + uptoBulkAll spare + 1
  | .agg parts => uptoBulkAll parts + 1
  | .iface _ d => uptoBulk d + 1
  | .map entries => uptoBulkEntries entries + 1
  | .held _ => 1
def uptoBulkAll {H : Type} : List (DataW H) → Nat
  | [] => 0
  | d :: r => uptoBulk d + uptoBulkAll r
def uptoBulkEntries {H : Type} : List (Lit × DataW H) → Nat
  | [] => 0
  | x :: r => uptoBulkEntry x + uptoBulkEntries r
def uptoBulkEntry {H : Type} : Lit × DataW H → Nat
  | (.string bytes, d) => bytes.length + uptoBulk d + 1
  | (_, d) => uptoBulk d + 1
 end
def uptoSmall : (H : Type) → List (DataW H) → Bool := fun _ ds => decide (uptoBulkAll ds ≤ 1048576)
def OpenSpec.upto (s : _root_.Go.ChangeSpec) : _root_.Go.OpenSpec := { _root_.Go.OpenSpec.ofChange s with cond := some uptoSmall }

/-- 'laws.FnExactCheckWays', WHERE WHAT IT READS IS OF BULK AT MOST 1048576: true; the input reads as it did. -/
def fnExactCheckWaysUptoRow : OpenClaim := { program := "ytnfdefeafhepkaa", sum := "27d6a54f93a7042d05e6f754cf6bc0303632bb26cb0e202ba1da213589cb84c9", func := "loop.example/g01345/laws.FnExactCheckWays", spec := "fnExactCheckWays", unfollowed := true, recurses := true, plainKeys := false, apart := false, narrowed := true }
def FnExactCheckWaysUptoSaid : Prop := fnExactCheckWaysUptoRow.holds Try.pinned (OpenSpec.upto fnExactCheckWaysSpec)

/-- 'laws.FnExactDropIdle', WHERE WHAT IT READS IS OF BULK AT MOST 1048576: true; the input reads as it did. -/
def fnExactDropIdleUptoRow : OpenClaim := { program := "ytnfdefeafhepkaa", sum := "27d6a54f93a7042d05e6f754cf6bc0303632bb26cb0e202ba1da213589cb84c9", func := "loop.example/g01345/laws.FnExactDropIdle", spec := "fnExactDropIdle", unfollowed := true, recurses := true, plainKeys := false, apart := false, narrowed := true }
def FnExactDropIdleUptoSaid : Prop := fnExactDropIdleUptoRow.holds Try.pinned (OpenSpec.upto fnExactDropIdleSpec)

/-- 'laws.FnGrazed', WHERE WHAT IT READS IS OF BULK AT MOST 1048576: true; the input reads as it did. -/
def fnGrazedUptoRow : OpenClaim := { program := "ytnfdefeafhepkaa", sum := "27d6a54f93a7042d05e6f754cf6bc0303632bb26cb0e202ba1da213589cb84c9", func := "loop.example/g01345/laws.FnGrazed", spec := "fnGrazed", unfollowed := true, recurses := true, plainKeys := false, apart := false, narrowed := true }
def FnGrazedUptoSaid : Prop := fnGrazedUptoRow.holds Try.pinned (OpenSpec.upto fnGrazedSpec)

end Rows
end Go.Proofs.Ytnfdefeafhepkaa
