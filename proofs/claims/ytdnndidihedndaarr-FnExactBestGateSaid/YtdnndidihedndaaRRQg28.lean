import Derived.Test.YtdnndidihedndaaRRQg04
import Derived.Test.YtdnndidihedndaaRRQg20
/- The laws' copiers and comparers of spots. Slices of at most 2 to the power 20 elements. -/
namespace Go.Proofs.YtdnndidihedndaaRR
set_option linter.unusedVariables false
set_option linter.unusedSimpArgs false
open Go.RowKit Mem

set_option maxRecDepth 100000 in
theorem eqSpot_same (x y : Int) (w : World) :
    Calls Try.prog 135 #[.agg #[.int .i8 x, .int .i8 y], .agg #[.int .i8 x, .int .i8 y]] w fun e w' => e = .returned (.bool true) ∧ Below w.heap.size w w' := by
  have hL := Own.start w
  go_enter Try.func135, Try.ntmps135
  go_wp2_with (first
    | ((with_reducible refine gate_dst (N := 2) rfl ?_); refine wpl_box (cs := #[.int .i8 x, .int .i8 y]) hL rfl rfl rfl ?_; clear hL; intro g2 w2 hL)
    | ((with_reducible refine gate_dst (N := 3) rfl ?_); refine wpl_box (cs := #[.int .i8 x, .int .i8 y]) hL rfl rfl rfl ?_; clear hL; intro g3 w3 hL)
    | ((with_reducible refine gate_load rfl ?_); first | (refine wpl_load_0 hL rfl rfl (by kernel_rfl) rfl (by first | rfl | assumption) ?_) | (refine wpl_load_1 hL rfl rfl (by kernel_rfl) rfl (by first | rfl | assumption) ?_) | (refine wpl_load_2 hL rfl rfl (by kernel_rfl) rfl (by first | rfl | assumption) ?_) | (refine wpl_load_3 hL rfl rfl (by kernel_rfl) rfl (by first | rfl | assumption) ?_) | (refine wpl_load_4 hL rfl rfl (by kernel_rfl) rfl (by first | rfl | assumption) ?_) | (refine wpl_load_5 hL rfl rfl (by kernel_rfl) rfl (by first | rfl | assumption) ?_)))
  go_ret
  exact ⟨rfl, hL.toBelow⟩

end Go.Proofs.YtdnndidihedndaaRR
/- Marks in what a callee has made. No condition but a length of at most 2^20. -/
namespace Go.Proofs.YtdnndidihedndaaRR
set_option linter.unusedVariables false
set_option linter.unusedSimpArgs false
open Go.RowKit Mem Wk
attribute [local irreducible] Calls Wk.S Wk.C Wk.E Wk.X Wk.T Wk.Y Wk.anV Wk.orV Wk.andV Wk.shlV Wk.shrV Calm.wpLex CalmB.wpLex
/-- the first m cells bear the marks -/
def Mkd (f : Nat → Value) (c : Array Value) (m : Nat) : Prop := ∀ j, j < m → c[j]? = some (f j)
theorem Mkd.put {f : Nat → Value} {c : Array Value} {m i : Nat} {v : Value} (h : Mkd f c m) (hs : m < c.size) (hi : i = m) (hv : v = f m) : Mkd f (c.setIfInBounds i v) (m + 1) := fun j hj => by
  subst hi; subst hv
  by_cases e : j = i
  · subst e; simp [hs]
  · rw [Array.getElem?_setIfInBounds_ne (by omega)]; exact h j (by omega)
end Go.Proofs.YtdnndidihedndaaRR
/- The laws' copiers and comparers of hurdles. Slices of at most 2 to the power 20 elements. -/
namespace Go.Proofs.YtdnndidihedndaaRR
set_option linter.unusedVariables false
set_option linter.unusedSimpArgs false
open Go.RowKit Mem

set_option maxRecDepth 100000 in
set_option maxHeartbeats 400000 in
theorem eqHurdle_same (x : Int) (y : Int) (s : Bool) (w : World) :
    Calls Try.prog 56 #[.agg #[.int .i8 x, .int .i8 y, .bool s], .agg #[.int .i8 x, .int .i8 y, .bool s]] w fun e w' => e = .returned (.bool true) ∧ Below w.heap.size w w' := by
  have hL := Own.start w
  go_enter Try.func56, Try.ntmps56
  go_wp2_with (first
    | ((with_reducible refine gate_dst (N := 2) rfl ?_); refine wpl_box (cs := #[.int .i8 x, .int .i8 y, .bool s]) hL rfl rfl rfl ?_; clear hL; intro g2 w2 hL)
    | ((with_reducible refine gate_dst (N := 3) rfl ?_); refine wpl_box (cs := #[.int .i8 x, .int .i8 y, .bool s]) hL rfl rfl rfl ?_; clear hL; intro g3 w3 hL)
    | ((with_reducible refine gate_load (ty := 49) rfl ?_); refine wpl_loadN_0 (off := 0) (vs := #[.int .i8 x, .int .i8 y]) hL 2 rfl rfl (by kernel_rfl) (by kernel_rfl) rfl (by simp) rfl ?_)
    | ((with_reducible refine gate_load (ty := 49) rfl ?_); refine wpl_loadN_1 (off := 0) (vs := #[.int .i8 x, .int .i8 y]) hL 2 rfl rfl (by kernel_rfl) (by kernel_rfl) rfl (by simp) rfl ?_)
    | (go_at_call 135; (with_reducible refine (eqSpot_same x y _).mono ?_); rintro e w4 ⟨rfl, hb⟩; replace hL := hL.ext hb; clear hb)
    | ((with_reducible refine gate_load rfl ?_); first | (refine wpl_load_0 hL rfl rfl (by kernel_rfl) rfl (by first | rfl | assumption) ?_) | (refine wpl_load_1 hL rfl rfl (by kernel_rfl) rfl (by first | rfl | assumption) ?_) | (refine wpl_load_2 hL rfl rfl (by kernel_rfl) rfl (by first | rfl | assumption) ?_) | (refine wpl_load_3 hL rfl rfl (by kernel_rfl) rfl (by first | rfl | assumption) ?_) | (refine wpl_load_4 hL rfl rfl (by kernel_rfl) rfl (by first | rfl | assumption) ?_) | (refine wpl_load_5 hL rfl rfl (by kernel_rfl) rfl (by first | rfl | assumption) ?_)))
  go_ret
  exact ⟨rfl, hL.toBelow⟩

end Go.Proofs.YtdnndidihedndaaRR
