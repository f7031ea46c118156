/- The closure of cellCode: a spot that is no cell. No condition. -/
import Derived.Test.YtfefkkpcjcnmcaaAsk
namespace Go.Proofs.Ytfefkkpcjcnmcaa
set_option linter.unusedVariables false
set_option linter.unusedSimpArgs false
open Go.RowKit Mem
attribute [local irreducible] Calm.wpLex

set_option maxRecDepth 100000 in
set_option maxHeartbeats 1000000 in
theorem cellClosure_any (p : Nat → Int) (cs : Array Value) (gp : Nat) (x y : Int) (w : World) (hp : Pv p cs) (hw : w.heap[gp]? = some (.cells cs 36 (0, 0))) (hx : -128 ≤ x ∧ x ≤ 127) (hy : -128 ≤ y ∧ y ≤ 127) :
    Calls Try.prog 204 #[.agg #[.int .i8 x, .int .i8 y], .pointer (some ⟨gp, 0, none⟩)] w fun e w' => e = .returned (.bool (!(isC (p 0) (p 1) x y))) ∧ Below w.heap.size w w' := by
  have hL := Own.startAt w hw
  have HW := Lib.hid hw
  have hsz := hp.size
  clear hw
  go_enter Try.func204, Try.ntmps204
  go_wp2_with (first
    | ((with_reducible refine gate_dst (N := 2) rfl ?_); refine wpl_box (cs := #[.int .i8 x, .int .i8 y]) hL rfl rfl rfl ?_; clear hL; intro g2 w2 hL)
    | ((with_reducible refine gate_load (ty := 36) rfl ?_); refine wpl_loadW_1 hL rfl rfl (by kernel_rfl) rfl hsz (by kernel_rfl) ?_)
    | ((with_reducible refine gate_load (ty := 38) rfl ?_); refine wpl_loadW_0 hL rfl rfl (by kernel_rfl) rfl rfl (by kernel_rfl) ?_)
    | (go_at_call 199; (with_reducible refine (isCell_any p cs x y _ hp hx hy).mono ?_); rintro e w4 ⟨rfl, hb⟩; replace hL := hL.ext hb; clear hb))
  go_ret
  exact ⟨rfl, hL.toBelow1 HW.out (hL.at_ (i := 1) rfl)⟩
end Go.Proofs.Ytfefkkpcjcnmcaa
