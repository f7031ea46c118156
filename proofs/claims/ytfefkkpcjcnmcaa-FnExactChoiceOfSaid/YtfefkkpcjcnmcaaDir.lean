/- The spot beyond a side. No condition but that it can be told. -/
import Derived.Test.YtfefkkpcjcnmcaaOk
namespace Go.Proofs.Ytfefkkpcjcnmcaa
set_option linter.unusedVariables false
set_option linter.unusedSimpArgs false
open Go.RowKit Mem

def nextX (x side : Int) : Int := if side = 0 then x else if side = 1 then x + 1 else if side = 2 then x else x - 1
def nextY (y side : Int) : Int := if side = 0 then y - 1 else if side = 1 then y else if side = 2 then y + 1 else y
set_option maxRecDepth 100000 in
set_option maxHeartbeats 1000000 in
theorem ahead_any (x y side : Int) (w : World) (hx : -127 ≤ x ∧ x ≤ 126) (hy : -127 ≤ y ∧ y ≤ 126) :
    Calls Try.prog 206 #[.agg #[.int .i8 x, .int .i8 y], .int .i64 side] w fun e w' => e = .returned (.agg #[.int .i8 (nextX x side), .int .i8 (nextY y side)]) ∧ Below w.heap.size w w' := by
  have hL := Own.start w
  obtain ⟨x1, x2⟩ := hx
  obtain ⟨y1, y2⟩ := hy
  by_cases h0 : side = 0
  · subst h0
    have HX : Hid (nextX x 0 = x) := by show nextX _ _ = _; unfold nextX; simp
    have HY : Hid (nextY y 0 = (y - 1)) := by show nextY _ _ = _; unfold nextY; simp
    go_enter Try.func206, Try.ntmps206
    go_wp2_with (first
      | ((with_reducible refine gate_dst (N := 2) rfl ?_); refine wpl_box (cs := #[.int .i8 x, .int .i8 y]) hL rfl rfl rfl ?_; clear hL; intro g2 w2 hL)
      | ((with_reducible refine gate_dst (N := 4) rfl ?_); refine wpl_alloc (z := .agg (#[.int .i8 0, .int .i8 0])) (cs := #[.int .i8 0, .int .i8 0]) hL rfl rfl (by kernel_rfl) rfl ?_; clear hL; intro g4 w4 hL)
      | ((with_reducible refine gate_load (ty := 38) rfl ?_); refine wpl_loadW_1 hL rfl rfl (by kernel_rfl) rfl rfl (by kernel_rfl) ?_)
      | ((with_reducible refine gate_store (ty := 38) rfl ?_); refine wpl_storeW_0 (vs := #[.int .i8 x, .int .i8 (y - 1)]) hL rfl rfl rfl rfl rfl (by kernel_rfl) (by simp [Value.oneCell']) rfl ?_; clear hL; intro w5 hL)
      | ((with_reducible refine gate_load rfl ?_); first | (refine wpl_load_1 hL rfl rfl (by kernel_rfl) rfl (by first | rfl | assumption) ?_))
      | ((with_reducible refine gate_store rfl ?_); first | (refine wpl_store1_1 hL rfl rfl (by kernel_rfl) rfl rfl rfl (by first | assumption | (simp; done) | (simp [*]; done)) ?_; clear hL; intro w0_ hL; (try simp only [Act.eval, Array.getD_eq_getD_getElem?, List.getElem?_toArray, List.getElem?_cons_zero, List.getElem?_cons_succ, Option.getD_some, List.setIfInBounds_toArray, List.set_cons_zero, List.set_cons_succ] at hL)))
      | ((with_reducible refine post_gate ?_); exact post1 rfl (res_cell (hL.at_ (i := 0) rfl) rfl (by kernel_rfl) rfl (by kernel_rfl)) rfl ⟨by rw [HX.out, HY.out], hL.toBelow⟩))
  by_cases h1 : side = 1
  · subst h1
    have HX : Hid (nextX x 1 = (x + 1)) := by show nextX _ _ = _; unfold nextX; simp
    have HY : Hid (nextY y 1 = y) := by show nextY _ _ = _; unfold nextY; simp
    go_enter Try.func206, Try.ntmps206
    go_wp2_with (first
      | ((with_reducible refine gate_dst (N := 2) rfl ?_); refine wpl_box (cs := #[.int .i8 x, .int .i8 y]) hL rfl rfl rfl ?_; clear hL; intro g2 w2 hL)
      | ((with_reducible refine gate_dst (N := 4) rfl ?_); refine wpl_alloc (z := .agg (#[.int .i8 0, .int .i8 0])) (cs := #[.int .i8 0, .int .i8 0]) hL rfl rfl (by kernel_rfl) rfl ?_; clear hL; intro g4 w4 hL)
      | ((with_reducible refine gate_load (ty := 38) rfl ?_); refine wpl_loadW_1 hL rfl rfl (by kernel_rfl) rfl rfl (by kernel_rfl) ?_)
      | ((with_reducible refine gate_store (ty := 38) rfl ?_); refine wpl_storeW_0 (vs := #[.int .i8 (x + 1), .int .i8 y]) hL rfl rfl rfl rfl rfl (by kernel_rfl) (by simp [Value.oneCell']) rfl ?_; clear hL; intro w5 hL)
      | ((with_reducible refine gate_load rfl ?_); first | (refine wpl_load_1 hL rfl rfl (by kernel_rfl) rfl (by first | rfl | assumption) ?_))
      | ((with_reducible refine gate_store rfl ?_); first | (refine wpl_store1_1 hL rfl rfl (by kernel_rfl) rfl rfl rfl (by first | assumption | (simp; done) | (simp [*]; done)) ?_; clear hL; intro w0_ hL; (try simp only [Act.eval, Array.getD_eq_getD_getElem?, List.getElem?_toArray, List.getElem?_cons_zero, List.getElem?_cons_succ, Option.getD_some, List.setIfInBounds_toArray, List.set_cons_zero, List.set_cons_succ] at hL)))
      | ((with_reducible refine post_gate ?_); exact post1 rfl (res_cell (hL.at_ (i := 0) rfl) rfl (by kernel_rfl) rfl (by kernel_rfl)) rfl ⟨by rw [HX.out, HY.out], hL.toBelow⟩))
  by_cases h2 : side = 2
  · subst h2
    have HX : Hid (nextX x 2 = x) := by show nextX _ _ = _; unfold nextX; simp
    have HY : Hid (nextY y 2 = (y + 1)) := by show nextY _ _ = _; unfold nextY; simp
    go_enter Try.func206, Try.ntmps206
    go_wp2_with (first
      | ((with_reducible refine gate_dst (N := 2) rfl ?_); refine wpl_box (cs := #[.int .i8 x, .int .i8 y]) hL rfl rfl rfl ?_; clear hL; intro g2 w2 hL)
      | ((with_reducible refine gate_dst (N := 4) rfl ?_); refine wpl_alloc (z := .agg (#[.int .i8 0, .int .i8 0])) (cs := #[.int .i8 0, .int .i8 0]) hL rfl rfl (by kernel_rfl) rfl ?_; clear hL; intro g4 w4 hL)
      | ((with_reducible refine gate_load (ty := 38) rfl ?_); refine wpl_loadW_1 hL rfl rfl (by kernel_rfl) rfl rfl (by kernel_rfl) ?_)
      | ((with_reducible refine gate_store (ty := 38) rfl ?_); refine wpl_storeW_0 (vs := #[.int .i8 x, .int .i8 (y + 1)]) hL rfl rfl rfl rfl rfl (by kernel_rfl) (by simp [Value.oneCell']) rfl ?_; clear hL; intro w5 hL)
      | ((with_reducible refine gate_load rfl ?_); first | (refine wpl_load_1 hL rfl rfl (by kernel_rfl) rfl (by first | rfl | assumption) ?_))
      | ((with_reducible refine gate_store rfl ?_); first | (refine wpl_store1_1 hL rfl rfl (by kernel_rfl) rfl rfl rfl (by first | assumption | (simp; done) | (simp [*]; done)) ?_; clear hL; intro w0_ hL; (try simp only [Act.eval, Array.getD_eq_getD_getElem?, List.getElem?_toArray, List.getElem?_cons_zero, List.getElem?_cons_succ, Option.getD_some, List.setIfInBounds_toArray, List.set_cons_zero, List.set_cons_succ] at hL)))
      | ((with_reducible refine post_gate ?_); exact post1 rfl (res_cell (hL.at_ (i := 0) rfl) rfl (by kernel_rfl) rfl (by kernel_rfl)) rfl ⟨by rw [HX.out, HY.out], hL.toBelow⟩))
  have HX : Hid (nextX x side = (x - 1)) := by show nextX _ _ = _; unfold nextX; simp [h0, h1, h2]
  have HY : Hid (nextY y side = y) := by show nextY _ _ = _; unfold nextY; simp [h0, h1, h2]
  go_enter Try.func206, Try.ntmps206
  go_wp2_with (first
    | ((with_reducible refine gate_dst (N := 2) rfl ?_); refine wpl_box (cs := #[.int .i8 x, .int .i8 y]) hL rfl rfl rfl ?_; clear hL; intro g2 w2 hL)
    | ((with_reducible refine gate_dst (N := 4) rfl ?_); refine wpl_alloc (z := .agg (#[.int .i8 0, .int .i8 0])) (cs := #[.int .i8 0, .int .i8 0]) hL rfl rfl (by kernel_rfl) rfl ?_; clear hL; intro g4 w4 hL)
    | ((with_reducible refine gate_load (ty := 38) rfl ?_); refine wpl_loadW_1 hL rfl rfl (by kernel_rfl) rfl rfl (by kernel_rfl) ?_)
    | ((with_reducible refine gate_store (ty := 38) rfl ?_); refine wpl_storeW_0 (vs := #[.int .i8 (x - 1), .int .i8 y]) hL rfl rfl rfl rfl rfl (by kernel_rfl) (by simp [Value.oneCell']) rfl ?_; clear hL; intro w5 hL)
    | ((with_reducible refine gate_load rfl ?_); first | (refine wpl_load_1 hL rfl rfl (by kernel_rfl) rfl (by first | rfl | assumption) ?_))
    | ((with_reducible refine gate_store rfl ?_); first | (refine wpl_store1_1 hL rfl rfl (by kernel_rfl) rfl rfl rfl (by first | assumption | (simp; done) | (simp [*]; done)) ?_; clear hL; intro w0_ hL; (try simp only [Act.eval, Array.getD_eq_getD_getElem?, List.getElem?_toArray, List.getElem?_cons_zero, List.getElem?_cons_succ, Option.getD_some, List.setIfInBounds_toArray, List.set_cons_zero, List.set_cons_succ] at hL)))
    | ((with_reducible refine post_gate ?_); exact post1 rfl (res_cell (hL.at_ (i := 0) rfl) rfl (by kernel_rfl) rfl (by kernel_rfl)) rfl ⟨by rw [HX.out, HY.out], hL.toBelow⟩))
set_option maxRecDepth 100000 in
set_option maxHeartbeats 1000000 in
theorem l01Next_any (x y side : Int) (w : World) (hx : -127 ≤ x ∧ x ≤ 126) (hy : -127 ≤ y ∧ y ≤ 126) :
    Calls Try.prog 137 #[.agg #[.int .i8 x, .int .i8 y], .int .i64 side] w fun e w' => e = .returned (.agg #[.int .i8 (nextX x side), .int .i8 (nextY y side)]) ∧ Below w.heap.size w w' := by
  have hL := Own.start w
  obtain ⟨x1, x2⟩ := hx
  obtain ⟨y1, y2⟩ := hy
  by_cases h0 : side = 0
  · subst h0
    have HX : Hid (nextX x 0 = x) := by show nextX _ _ = _; unfold nextX; simp
    have HY : Hid (nextY y 0 = (y - 1)) := by show nextY _ _ = _; unfold nextY; simp
    go_enter Try.func137, Try.ntmps137
    go_wp2_with (first
      | ((with_reducible refine gate_dst (N := 2) rfl ?_); refine wpl_box (cs := #[.int .i8 x, .int .i8 y]) hL rfl rfl rfl ?_; clear hL; intro g2 w2 hL)
      | ((with_reducible refine gate_dst (N := 4) rfl ?_); refine wpl_alloc (z := .agg (#[.int .i8 0, .int .i8 0])) (cs := #[.int .i8 0, .int .i8 0]) hL rfl rfl (by kernel_rfl) rfl ?_; clear hL; intro g4 w4 hL)
      | ((with_reducible refine gate_load (ty := 38) rfl ?_); refine wpl_loadW_1 hL rfl rfl (by kernel_rfl) rfl rfl (by kernel_rfl) ?_)
      | ((with_reducible refine gate_store (ty := 38) rfl ?_); refine wpl_storeW_0 (vs := #[.int .i8 x, .int .i8 (y - 1)]) hL rfl rfl rfl rfl rfl (by kernel_rfl) (by simp [Value.oneCell']) rfl ?_; clear hL; intro w5 hL)
      | ((with_reducible refine gate_load rfl ?_); first | (refine wpl_load_1 hL rfl rfl (by kernel_rfl) rfl (by first | rfl | assumption) ?_))
      | ((with_reducible refine gate_store rfl ?_); first | (refine wpl_store1_1 hL rfl rfl (by kernel_rfl) rfl rfl rfl (by first | assumption | (simp; done) | (simp [*]; done)) ?_; clear hL; intro w0_ hL; (try simp only [Act.eval, Array.getD_eq_getD_getElem?, List.getElem?_toArray, List.getElem?_cons_zero, List.getElem?_cons_succ, Option.getD_some, List.setIfInBounds_toArray, List.set_cons_zero, List.set_cons_succ] at hL)))
      | ((with_reducible refine post_gate ?_); exact post1 rfl (res_cell (hL.at_ (i := 0) rfl) rfl (by kernel_rfl) rfl (by kernel_rfl)) rfl ⟨by rw [HX.out, HY.out], hL.toBelow⟩))
  by_cases h1 : side = 1
  · subst h1
    have HX : Hid (nextX x 1 = (x + 1)) := by show nextX _ _ = _; unfold nextX; simp
    have HY : Hid (nextY y 1 = y) := by show nextY _ _ = _; unfold nextY; simp
    go_enter Try.func137, Try.ntmps137
    go_wp2_with (first
      | ((with_reducible refine gate_dst (N := 2) rfl ?_); refine wpl_box (cs := #[.int .i8 x, .int .i8 y]) hL rfl rfl rfl ?_; clear hL; intro g2 w2 hL)
      | ((with_reducible refine gate_dst (N := 4) rfl ?_); refine wpl_alloc (z := .agg (#[.int .i8 0, .int .i8 0])) (cs := #[.int .i8 0, .int .i8 0]) hL rfl rfl (by kernel_rfl) rfl ?_; clear hL; intro g4 w4 hL)
      | ((with_reducible refine gate_load (ty := 38) rfl ?_); refine wpl_loadW_1 hL rfl rfl (by kernel_rfl) rfl rfl (by kernel_rfl) ?_)
      | ((with_reducible refine gate_store (ty := 38) rfl ?_); refine wpl_storeW_0 (vs := #[.int .i8 (x + 1), .int .i8 y]) hL rfl rfl rfl rfl rfl (by kernel_rfl) (by simp [Value.oneCell']) rfl ?_; clear hL; intro w5 hL)
      | ((with_reducible refine gate_load rfl ?_); first | (refine wpl_load_1 hL rfl rfl (by kernel_rfl) rfl (by first | rfl | assumption) ?_))
      | ((with_reducible refine gate_store rfl ?_); first | (refine wpl_store1_1 hL rfl rfl (by kernel_rfl) rfl rfl rfl (by first | assumption | (simp; done) | (simp [*]; done)) ?_; clear hL; intro w0_ hL; (try simp only [Act.eval, Array.getD_eq_getD_getElem?, List.getElem?_toArray, List.getElem?_cons_zero, List.getElem?_cons_succ, Option.getD_some, List.setIfInBounds_toArray, List.set_cons_zero, List.set_cons_succ] at hL)))
      | ((with_reducible refine post_gate ?_); exact post1 rfl (res_cell (hL.at_ (i := 0) rfl) rfl (by kernel_rfl) rfl (by kernel_rfl)) rfl ⟨by rw [HX.out, HY.out], hL.toBelow⟩))
  by_cases h2 : side = 2
  · subst h2
    have HX : Hid (nextX x 2 = x) := by show nextX _ _ = _; unfold nextX; simp
    have HY : Hid (nextY y 2 = (y + 1)) := by show nextY _ _ = _; unfold nextY; simp
    go_enter Try.func137, Try.ntmps137
    go_wp2_with (first
      | ((with_reducible refine gate_dst (N := 2) rfl ?_); refine wpl_box (cs := #[.int .i8 x, .int .i8 y]) hL rfl rfl rfl ?_; clear hL; intro g2 w2 hL)
      | ((with_reducible refine gate_dst (N := 4) rfl ?_); refine wpl_alloc (z := .agg (#[.int .i8 0, .int .i8 0])) (cs := #[.int .i8 0, .int .i8 0]) hL rfl rfl (by kernel_rfl) rfl ?_; clear hL; intro g4 w4 hL)
      | ((with_reducible refine gate_load (ty := 38) rfl ?_); refine wpl_loadW_1 hL rfl rfl (by kernel_rfl) rfl rfl (by kernel_rfl) ?_)
      | ((with_reducible refine gate_store (ty := 38) rfl ?_); refine wpl_storeW_0 (vs := #[.int .i8 x, .int .i8 (y + 1)]) hL rfl rfl rfl rfl rfl (by kernel_rfl) (by simp [Value.oneCell']) rfl ?_; clear hL; intro w5 hL)
      | ((with_reducible refine gate_load rfl ?_); first | (refine wpl_load_1 hL rfl rfl (by kernel_rfl) rfl (by first | rfl | assumption) ?_))
      | ((with_reducible refine gate_store rfl ?_); first | (refine wpl_store1_1 hL rfl rfl (by kernel_rfl) rfl rfl rfl (by first | assumption | (simp; done) | (simp [*]; done)) ?_; clear hL; intro w0_ hL; (try simp only [Act.eval, Array.getD_eq_getD_getElem?, List.getElem?_toArray, List.getElem?_cons_zero, List.getElem?_cons_succ, Option.getD_some, List.setIfInBounds_toArray, List.set_cons_zero, List.set_cons_succ] at hL)))
      | ((with_reducible refine post_gate ?_); exact post1 rfl (res_cell (hL.at_ (i := 0) rfl) rfl (by kernel_rfl) rfl (by kernel_rfl)) rfl ⟨by rw [HX.out, HY.out], hL.toBelow⟩))
  have HX : Hid (nextX x side = (x - 1)) := by show nextX _ _ = _; unfold nextX; simp [h0, h1, h2]
  have HY : Hid (nextY y side = y) := by show nextY _ _ = _; unfold nextY; simp [h0, h1, h2]
  go_enter Try.func137, Try.ntmps137
  go_wp2_with (first
    | ((with_reducible refine gate_dst (N := 2) rfl ?_); refine wpl_box (cs := #[.int .i8 x, .int .i8 y]) hL rfl rfl rfl ?_; clear hL; intro g2 w2 hL)
    | ((with_reducible refine gate_dst (N := 4) rfl ?_); refine wpl_alloc (z := .agg (#[.int .i8 0, .int .i8 0])) (cs := #[.int .i8 0, .int .i8 0]) hL rfl rfl (by kernel_rfl) rfl ?_; clear hL; intro g4 w4 hL)
    | ((with_reducible refine gate_load (ty := 38) rfl ?_); refine wpl_loadW_1 hL rfl rfl (by kernel_rfl) rfl rfl (by kernel_rfl) ?_)
    | ((with_reducible refine gate_store (ty := 38) rfl ?_); refine wpl_storeW_0 (vs := #[.int .i8 (x - 1), .int .i8 y]) hL rfl rfl rfl rfl rfl (by kernel_rfl) (by simp [Value.oneCell']) rfl ?_; clear hL; intro w5 hL)
    | ((with_reducible refine gate_load rfl ?_); first | (refine wpl_load_1 hL rfl rfl (by kernel_rfl) rfl (by first | rfl | assumption) ?_))
    | ((with_reducible refine gate_store rfl ?_); first | (refine wpl_store1_1 hL rfl rfl (by kernel_rfl) rfl rfl rfl (by first | assumption | (simp; done) | (simp [*]; done)) ?_; clear hL; intro w0_ hL; (try simp only [Act.eval, Array.getD_eq_getD_getElem?, List.getElem?_toArray, List.getElem?_cons_zero, List.getElem?_cons_succ, Option.getD_some, List.setIfInBounds_toArray, List.set_cons_zero, List.set_cons_succ] at hL)))
    | ((with_reducible refine post_gate ?_); exact post1 rfl (res_cell (hL.at_ (i := 0) rfl) rfl (by kernel_rfl) rfl (by kernel_rfl)) rfl ⟨by rw [HX.out, HY.out], hL.toBelow⟩))
end Go.Proofs.Ytfefkkpcjcnmcaa
