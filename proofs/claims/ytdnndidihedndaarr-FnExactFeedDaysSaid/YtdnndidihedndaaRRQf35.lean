import Derived.Test.YtdnndidihedndaaRRQf13
import Derived.Test.YtdnndidihedndaaRRQf21
/- A pasture whose cells come from those of another one. No condition. -/
namespace Go.Proofs.YtdnndidihedndaaRR
set_option linter.unusedVariables false
set_option linter.unusedSimpArgs false
open Go.RowKit Mem Wk
attribute [local irreducible] Calls Wk.S Wk.C Wk.E Wk.X Wk.T Wk.andV Wk.shrV Calm.wpLex
theorem Pv.setGrassA {p : Nat → Int} {cs : Array Value} {x y v : Int} (hp : Pv p cs) (hx : 0 ≤ x ∧ x < 10) (hy : 0 ≤ y ∧ y < 10) (h3 : -32768 ≤ v ∧ v ≤ 32767) : Pv (upd p (gi x y) v) (cs.setIfInBounds (0 + 2 + y.toNat * 10 + x.toNat * 1) (.int .i16 v)) := by
  have h := gi_lt hx hy
  have e : 0 + 2 + y.toNat * 10 + x.toNat * 1 = gi x y := by unfold gi; omega
  rw [e]; exact hp.setGrass h.1 h.2 h3
/-- an empty pasture -/
def base (a b : Int) : Nat → Int := upd (upd (fun _ => 0) 0 a) 1 b
end Go.Proofs.YtdnndidihedndaaRR
