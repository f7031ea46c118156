import Derived.Test.YtnfdefeafhepkaaQH23
import Derived.Test.YtnfdefeafhepkaaQH24
import Derived.Test.YtnfdefeafhepkaaQH28
import Derived.Test.YtnfdefeafhepkaaQH29
/- FeedByBites: both functions. No condition. -/
namespace Go.Proofs.Ytnfdefeafhepkaa
set_option linter.unusedVariables false
set_option linter.unusedSimpArgs false
open Go.RowKit Mem Wk
attribute [local irreducible] Calls Wk.S Wk.C Wk.E Wk.X Wk.T Wk.Y Wk.Z Wk.anV Wk.orV Wk.andV Wk.shlV Wk.shrV Calm.wpLex CalmB.wpLex CalmE.wpLex bfsN
/-- a pasture, goats and numbers in new blocks, and a code -/
def NewF (c : Array Value) (xg : List Value) (xi : List Value) (code : Int) (w : World) (e : Ending) (w' : World) : Prop := ∃ gl ng capg cu ge ni capi ci, e = .returned (.tuple #[.agg c, .slice (some ⟨gl, 0, none⟩) ng capg, .slice (some ⟨ge, 0, none⟩) ni capi, .int .i64 code]) ∧ Ap 7 ng capg cu xg ∧ Ap 1 ni capi ci xi ∧ Below w.heap.size w w' ∧ w.heap.size ≤ gl ∧ w.heap.size ≤ ge ∧ gl ≠ ge ∧ w'.heap[gl]? = some (.cells cu 68 (0, 0)) ∧ w'.heap[ge]? = some (.cells ci 2 (0, 0))
theorem NewF.of {w0 w : World} {L : List (Nat × TypeId × Array Value)} {c : Array Value} {xg xi : List Value} {code : Int} {gl ng capg ge ni capi i j : Nat} {cu ci : Array Value} (hA : Ap 7 ng capg cu xg) (hB : Ap 1 ni capi ci xi) (hL : Kn [] w0 w L) (hi : L[i]? = some (gl, 68, cu)) (hj : L[j]? = some (ge, 2, ci)) (hij : i ≠ j) : NewF c xg xi code w0 (.returned (.tuple #[.agg c, .slice (some ⟨gl, 0, none⟩) ng capg, .slice (some ⟨ge, 0, none⟩) ni capi, .int .i64 code])) w :=
  ⟨gl, ng, capg, cu, ge, ni, capi, ci, rfl, hA, hB, hL.toBelow, Kn.fresh hL (List.mem_of_getElem? hi), Kn.fresh hL (List.mem_of_getElem? hj), Kn.ne2 hL hi hj hij, hL.at_ (List.mem_of_getElem? hi), hL.at_ (List.mem_of_getElem? hj)⟩
section
variable (p : Nat → Int) (cs c' : Array Value) (L : List Gt) (g n cap : Nat) (cur : Array Value) (w : World)
end
end Go.Proofs.Ytnfdefeafhepkaa
