/-
  No cell of these rows narrows 'for every input' (looked for: loops, veiled, ifaces, maps, wideKeys, modest, calm, conditions, laid).
  DERIVED. THE GIVEN ROWS OF THIS SEAT. 3 by the template 'for every input the law returns true; each argument reads behind the call as it read before'; 0 by the template 'total and deterministic' (their statements: YtnafnhpajkhgkaaTotals.lean).
  GIVEN WITH THE SEED: the statements are not yours to turn. If you find one false, say at which input.
  Laid BY PROGRAM, IN A SANDBOX (cutbox-rows.mjs): the forced cells as the released guide's own fill.sh prints them over the translation 9edc04386ed4f862… (all of the seat's roots in one cut). By AI agents, Wed Nov 11 2026. No macro, syntax, notation, axiom, sorry.
-/
import Derived.Test.YtnafnhpajkhgkaaChecked
import GoSem.Claim
import GoSem.ClaimJoined
import GoSem.ClaimMapViews
import Derived.JoinedTies
import Derived.KernelRfl
namespace Go.Proofs.Ytnafnhpajkhgkaa
/- THE CELL 'sum', in the pinned program and in every row, IS THE sha256 OF THE DUMP (.gsa) THAT YtnafnhpajkhgkaaProg.lean LOADS. Nothing in Lean hashes anything: it is a label: what it is worth is what the hold of that sum in a sandbox is worth. -/
noncomputable def Try.pinned : Pinned := { name := "ytnafnhpajkhgkaa", sum := "9edc04386ed4f8623bf183363c11c73cbcebf8cbd8bce1983a3dcf3984077809", checked := Try.checked }
namespace Rows
def none {H : Type} : Left H := { results := [], args := [] }

/-- 'laws.FnExactEncloseCells': WHATEVER THE INPUT: true; the input reads as it did. -/
def fnExactEncloseCellsSpec : ChangeSpec := { name := "fnExactEncloseCells", fn := fun _ => fun
  | [d1, d2] => { results := [.lit (.bool true)], args := [d1, d2] }
  | _ => none }
def fnExactEncloseCellsRow : OpenClaim := { program := "ytnafnhpajkhgkaa", sum := "9edc04386ed4f8623bf183363c11c73cbcebf8cbd8bce1983a3dcf3984077809", func := "loop.example/g01345/laws.FnExactEncloseCells", spec := "fnExactEncloseCells", unfollowed := true, recurses := true, apart := false }
def FnExactEncloseCellsSaid : Prop := fnExactEncloseCellsRow.holds Try.pinned (OpenSpec.ofChange fnExactEncloseCellsSpec)

/-- ITS FALSE NEIGHBOUR: 'it returns false'. Refute it at one input. -/
def fnExactEncloseCellsWrong : ChangeSpec := { name := "fnExactEncloseCells", fn := fun _ => fun
  | [d1, d2] => { results := [.lit (.bool false)], args := [d1, d2] }
  | _ => none }
def FnExactEncloseCellsWrongFalsely : Prop := fnExactEncloseCellsRow.holds Try.pinned (OpenSpec.ofChange fnExactEncloseCellsWrong)

/-- 'laws.FnExactWaysApart': WHATEVER THE INPUT: true; the input reads as it did. -/
def fnExactWaysApartSpec : ChangeSpec := { name := "fnExactWaysApart", fn := fun _ => fun
  | [d1, d2, d3] => { results := [.lit (.bool true)], args := [d1, d2, d3] }
  | _ => none }
def fnExactWaysApartRow : OpenClaim := { program := "ytnafnhpajkhgkaa", sum := "9edc04386ed4f8623bf183363c11c73cbcebf8cbd8bce1983a3dcf3984077809", func := "loop.example/g01345/laws.FnExactWaysApart", spec := "fnExactWaysApart", unfollowed := true, recurses := true, apart := false }
def FnExactWaysApartSaid : Prop := fnExactWaysApartRow.holds Try.pinned (OpenSpec.ofChange fnExactWaysApartSpec)

/-- ITS FALSE NEIGHBOUR: 'it returns false'. Refute it at one input. -/
def fnExactWaysApartWrong : ChangeSpec := { name := "fnExactWaysApart", fn := fun _ => fun
  | [d1, d2, d3] => { results := [.lit (.bool false)], args := [d1, d2, d3] }
  | _ => none }
def FnExactWaysApartWrongFalsely : Prop := fnExactWaysApartRow.holds Try.pinned (OpenSpec.ofChange fnExactWaysApartWrong)

/-- 'laws.FnExactSmallYard': WHATEVER THE INPUT: true; the input reads as it did. -/
def fnExactSmallYardSpec : ChangeSpec := { name := "fnExactSmallYard", fn := fun _ => fun
  | [d1, d2, d3] => { results := [.lit (.bool true)], args := [d1, d2, d3] }
  | _ => none }
def fnExactSmallYardRow : OpenClaim := { program := "ytnafnhpajkhgkaa", sum := "9edc04386ed4f8623bf183363c11c73cbcebf8cbd8bce1983a3dcf3984077809", func := "loop.example/g01345/laws.FnExactSmallYard", spec := "fnExactSmallYard", unfollowed := true, recurses := true, apart := false }
def FnExactSmallYardSaid : Prop := fnExactSmallYardRow.holds Try.pinned (OpenSpec.ofChange fnExactSmallYardSpec)

/-- ITS FALSE NEIGHBOUR: 'it returns false'. Refute it at one input. -/
def fnExactSmallYardWrong : ChangeSpec := { name := "fnExactSmallYard", fn := fun _ => fun
  | [d1, d2, d3] => { results := [.lit (.bool false)], args := [d1, d2, d3] }
  | _ => none }
def FnExactSmallYardWrongFalsely : Prop := fnExactSmallYardRow.holds Try.pinned (OpenSpec.ofChange fnExactSmallYardWrong)

/- THE SECOND FORM. 'bulk': how many values and letters a reading holds, each counted each time it is reached (what is shared counts as often as it is met; a slice's spare places count too). A statement '..UptoSaid' is the law's where the arguments, and the package variables that the reading takes, are together of bulk at most 1048576: NARROWER than '..Said'. Prove '..Said' where nothing that the law and all that it calls make is longer than what came in: it says more and counts as full. Else prove '..UptoSaid'. A law counts once. -/
mutual
def uptoBulk {H : Type} : DataW H → Nat
  | .lit (.string bytes) => bytes.length + 1
  | .lit _ => 1
  | .nil => 1
  | .ptr d => uptoBulk d + 1
  | .slice elems spare => uptoBulkAll elems + uptoBulkAll spare + 1
  | .agg parts => uptoBulkAll parts + 1
  | .iface _ d => uptoBulk d + 1
  | .map entries => uptoBulkEntries entries + 1
  | .held _ => 1
def uptoBulkAll {H : Type} : List (DataW H) → Nat
  | [] => 0
  | d :: r => uptoBulk d + uptoBulkAll r
def uptoBulkEntries {H : Type} : List (Lit × DataW H) → Nat
  | [] => 0
  | x :: r => uptoBulkEntry x + uptoBulkEntries r
def uptoBulkEntry {H : Type} : Lit × DataW H → Nat
  | (.string bytes, d) => bytes.length + uptoBulk d + 1
  | (_, d) => uptoBulk d + 1
 end
def uptoSmall : (H : Type) → List (DataW H) → Bool := fun _ ds => decide (uptoBulkAll ds ≤ 1048576)
def OpenSpec.upto (s : _root_.Go.ChangeSpec) : _root_.Go.OpenSpec := { _root_.Go.OpenSpec.ofChange s with cond := some uptoSmall }

/-- 'laws.FnExactEncloseCells', WHERE WHAT IT READS IS OF BULK AT MOST 1048576: true; the input reads as it did. -/
def fnExactEncloseCellsUptoRow : OpenClaim := { program := "ytnafnhpajkhgkaa", sum := "9edc04386ed4f8623bf183363c11c73cbcebf8cbd8bce1983a3dcf3984077809", func := "loop.example/g01345/laws.FnExactEncloseCells", spec := "fnExactEncloseCells", unfollowed := true, recurses := true, apart := false, narrowed := true }
def FnExactEncloseCellsUptoSaid : Prop := fnExactEncloseCellsUptoRow.holds Try.pinned (OpenSpec.upto fnExactEncloseCellsSpec)

/-- 'laws.FnExactWaysApart', WHERE WHAT IT READS IS OF BULK AT MOST 1048576: true; the input reads as it did. -/
def fnExactWaysApartUptoRow : OpenClaim := { program := "ytnafnhpajkhgkaa", sum := "9edc04386ed4f8623bf183363c11c73cbcebf8cbd8bce1983a3dcf3984077809", func := "loop.example/g01345/laws.FnExactWaysApart", spec := "fnExactWaysApart", unfollowed := true, recurses := true, apart := false, narrowed := true }
def FnExactWaysApartUptoSaid : Prop := fnExactWaysApartUptoRow.holds Try.pinned (OpenSpec.upto fnExactWaysApartSpec)

/-- 'laws.FnExactSmallYard', WHERE WHAT IT READS IS OF BULK AT MOST 1048576: true; the input reads as it did. -/
def fnExactSmallYardUptoRow : OpenClaim := { program := "ytnafnhpajkhgkaa", sum := "9edc04386ed4f8623bf183363c11c73cbcebf8cbd8bce1983a3dcf3984077809", func := "loop.example/g01345/laws.FnExactSmallYard", spec := "fnExactSmallYard", unfollowed := true, recurses := true, apart := false, narrowed := true }
def FnExactSmallYardUptoSaid : Prop := fnExactSmallYardUptoRow.holds Try.pinned (OpenSpec.upto fnExactSmallYardSpec)

end Rows
end Go.Proofs.Ytnafnhpajkhgkaa
