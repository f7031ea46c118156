import Derived.Test.YtnafnhpajkhgkaaQY03
import Derived.Test.YtnafnhpajkhgkaaQY08
/- The spot beyond a side. No condition but that it can be told. -/
namespace Go.Proofs.Ytnafnhpajkhgkaa
set_option linter.unusedVariables false
set_option linter.unusedSimpArgs false
open Go.RowKit Mem

def nextX (x side : Int) : Int := if side = 0 then x else if side = 1 then x + 1 else if side = 2 then x else x - 1
def nextY (y side : Int) : Int := if side = 0 then y - 1 else if side = 1 then y else if side = 2 then y + 1 else y
set_option maxRecDepth 100000 in
set_option maxHeartbeats 1000000 in
theorem ahead_any (x y side : Int) (w : World) (hx : -127 ≤ x ∧ x ≤ 126) (hy : -127 ≤ y ∧ y ≤ 126) :
    Calls Try.prog 79 #[.agg #[.int .i8 x, .int .i8 y], .int .i64 side] w fun e w' => e = .returned (.agg #[.int .i8 (nextX x side), .int .i8 (nextY y side)]) ∧ Below w.heap.size w w' := by
  have hL := Own.start w
  obtain ⟨x1, x2⟩ := hx
  obtain ⟨y1, y2⟩ := hy
  by_cases h0 : side = 0
  · subst h0
    have HX : Hid (nextX x 0 = x) := by show nextX _ _ = _; unfold nextX; simp
    have HY : Hid (nextY y 0 = (y - 1)) := by show nextY _ _ = _; unfold nextY; simp
    go_enter Try.func79, Try.ntmps79
    go_wp2_with (first
      | ((with_reducible refine gate_dst (N := 2) rfl ?_); refine wpl_box (cs := #[.int .i8 x, .int .i8 y]) hL rfl rfl rfl ?_; clear hL; intro g2 w2 hL)
      | ((with_reducible refine gate_dst (N := 4) rfl ?_); refine wpl_alloc (z := .agg (#[.int .i8 0, .int .i8 0])) (cs := #[.int .i8 0, .int .i8 0]) hL rfl rfl (by kernel_rfl) rfl ?_; clear hL; intro g4 w4 hL)
      | ((with_reducible refine gate_load (ty := 52) rfl ?_); refine wpl_loadW_1 hL rfl rfl (by kernel_rfl) rfl rfl (by kernel_rfl) ?_)
      | ((with_reducible refine gate_store (ty := 52) rfl ?_); refine wpl_storeW_0 (vs := #[.int .i8 x, .int .i8 (y - 1)]) hL rfl rfl rfl rfl rfl (by kernel_rfl) (by simp [Value.oneCell']) rfl ?_; clear hL; intro w5 hL)
      | ((with_reducible refine gate_load rfl ?_); first | (refine wpl_load_1 hL rfl rfl (by kernel_rfl) rfl (by first | rfl | assumption) ?_))
      | ((with_reducible refine gate_store rfl ?_); first | (refine wpl_store1_1 hL rfl rfl (by kernel_rfl) rfl rfl rfl (by first | assumption | (simp; done) | (simp [*]; done)) ?_; clear hL; intro w0_ hL; (try simp only [Act.eval, Array.getD_eq_getD_getElem?, List.getElem?_toArray, List.getElem?_cons_zero, List.getElem?_cons_succ, Option.getD_some, List.setIfInBounds_toArray, List.set_cons_zero, List.set_cons_succ] at hL)))
      | ((with_reducible refine post_gate ?_); exact post1 rfl (res_cell (hL.at_ (i := 0) rfl) rfl (by kernel_rfl) rfl (by kernel_rfl)) rfl ⟨by rw [HX.out, HY.out], hL.toBelow⟩))
  by_cases h1 : side = 1
  · subst h1
    have HX : Hid (nextX x 1 = (x + 1)) := by show nextX _ _ = _; unfold nextX; simp
    have HY : Hid (nextY y 1 = y) := by show nextY _ _ = _; unfold nextY; simp
    go_enter Try.func79, Try.ntmps79
    go_wp2_with (first
      | ((with_reducible refine gate_dst (N := 2) rfl ?_); refine wpl_box (cs := #[.int .i8 x, .int .i8 y]) hL rfl rfl rfl ?_; clear hL; intro g2 w2 hL)
      | ((with_reducible refine gate_dst (N := 4) rfl ?_); refine wpl_alloc (z := .agg (#[.int .i8 0, .int .i8 0])) (cs := #[.int .i8 0, .int .i8 0]) hL rfl rfl (by kernel_rfl) rfl ?_; clear hL; intro g4 w4 hL)
      | ((with_reducible refine gate_load (ty := 52) rfl ?_); refine wpl_loadW_1 hL rfl rfl (by kernel_rfl) rfl rfl (by kernel_rfl) ?_)
      | ((with_reducible refine gate_store (ty := 52) rfl ?_); refine wpl_storeW_0 (vs := #[.int .i8 (x + 1), .int .i8 y]) hL rfl rfl rfl rfl rfl (by kernel_rfl) (by simp [Value.oneCell']) rfl ?_; clear hL; intro w5 hL)
      | ((with_reducible refine gate_load rfl ?_); first | (refine wpl_load_1 hL rfl rfl (by kernel_rfl) rfl (by first | rfl | assumption) ?_))
      | ((with_reducible refine gate_store rfl ?_); first | (refine wpl_store1_1 hL rfl rfl (by kernel_rfl) rfl rfl rfl (by first | assumption | (simp; done) | (simp [*]; done)) ?_; clear hL; intro w0_ hL; (try simp only [Act.eval, Array.getD_eq_getD_getElem?, List.getElem?_toArray, List.getElem?_cons_zero, List.getElem?_cons_succ, Option.getD_some, List.setIfInBounds_toArray, List.set_cons_zero, List.set_cons_succ] at hL)))
      | ((with_reducible refine post_gate ?_); exact post1 rfl (res_cell (hL.at_ (i := 0) rfl) rfl (by kernel_rfl) rfl (by kernel_rfl)) rfl ⟨by rw [HX.out, HY.out], hL.toBelow⟩))
  by_cases h2 : side = 2
  · subst h2
    have HX : Hid (nextX x 2 = x) := by show nextX _ _ = _; unfold nextX; simp
    have HY : Hid (nextY y 2 = (y + 1)) := by show nextY _ _ = _; unfold nextY; simp
    go_enter Try.func79, Try.ntmps79
    go_wp2_with (first
      | ((with_reducible refine gate_dst (N := 2) rfl ?_); refine wpl_box (cs := #[.int .i8 x, .int .i8 y]) hL rfl rfl rfl ?_; clear hL; intro g2 w2 hL)
      | ((with_reducible refine gate_dst (N := 4) rfl ?_); refine wpl_alloc (z := .agg (#[.int .i8 0, .int .i8 0])) (cs := #[.int .i8 0, .int .i8 0]) hL rfl rfl (by kernel_rfl) rfl ?_; clear hL; intro g4 w4 hL)
      | ((with_reducible refine gate_load (ty := 52) rfl ?_); refine wpl_loadW_1 hL rfl rfl (by kernel_rfl) rfl rfl (by kernel_rfl) ?_)
      | ((with_reducible refine gate_store (ty := 52) rfl ?_); refine wpl_storeW_0 (vs := #[.int .i8 x, .int .i8 (y + 1)]) hL rfl rfl rfl rfl rfl (by kernel_rfl) (by simp [Value.oneCell']) rfl ?_; clear hL; intro w5 hL)
      | ((with_reducible refine gate_load rfl ?_); first | (refine wpl_load_1 hL rfl rfl (by kernel_rfl) rfl (by first | rfl | assumption) ?_))
      | ((with_reducible refine gate_store rfl ?_); first | (refine wpl_store1_1 hL rfl rfl (by kernel_rfl) rfl rfl rfl (by first | assumption | (simp; done) | (simp [*]; done)) ?_; clear hL; intro w0_ hL; (try simp only [Act.eval, Array.getD_eq_getD_getElem?, List.getElem?_toArray, List.getElem?_cons_zero, List.getElem?_cons_succ, Option.getD_some, List.setIfInBounds_toArray, List.set_cons_zero, List.set_cons_succ] at hL)))
      | ((with_reducible refine post_gate ?_); exact post1 rfl (res_cell (hL.at_ (i := 0) rfl) rfl (by kernel_rfl) rfl (by kernel_rfl)) rfl ⟨by rw [HX.out, HY.out], hL.toBelow⟩))
  have HX : Hid (nextX x side = (x - 1)) := by show nextX _ _ = _; unfold nextX; simp [h0, h1, h2]
  have HY : Hid (nextY y side = y) := by show nextY _ _ = _; unfold nextY; simp [h0, h1, h2]
  go_enter Try.func79, Try.ntmps79
  go_wp2_with (first
    | ((with_reducible refine gate_dst (N := 2) rfl ?_); refine wpl_box (cs := #[.int .i8 x, .int .i8 y]) hL rfl rfl rfl ?_; clear hL; intro g2 w2 hL)
    | ((with_reducible refine gate_dst (N := 4) rfl ?_); refine wpl_alloc (z := .agg (#[.int .i8 0, .int .i8 0])) (cs := #[.int .i8 0, .int .i8 0]) hL rfl rfl (by kernel_rfl) rfl ?_; clear hL; intro g4 w4 hL)
    | ((with_reducible refine gate_load (ty := 52) rfl ?_); refine wpl_loadW_1 hL rfl rfl (by kernel_rfl) rfl rfl (by kernel_rfl) ?_)
    | ((with_reducible refine gate_store (ty := 52) rfl ?_); refine wpl_storeW_0 (vs := #[.int .i8 (x - 1), .int .i8 y]) hL rfl rfl rfl rfl rfl (by kernel_rfl) (by simp [Value.oneCell']) rfl ?_; clear hL; intro w5 hL)
    | ((with_reducible refine gate_load rfl ?_); first | (refine wpl_load_1 hL rfl rfl (by kernel_rfl) rfl (by first | rfl | assumption) ?_))
    | ((with_reducible refine gate_store rfl ?_); first | (refine wpl_store1_1 hL rfl rfl (by kernel_rfl) rfl rfl rfl (by first | assumption | (simp; done) | (simp [*]; done)) ?_; clear hL; intro w0_ hL; (try simp only [Act.eval, Array.getD_eq_getD_getElem?, List.getElem?_toArray, List.getElem?_cons_zero, List.getElem?_cons_succ, Option.getD_some, List.setIfInBounds_toArray, List.set_cons_zero, List.set_cons_succ] at hL)))
    | ((with_reducible refine post_gate ?_); exact post1 rfl (res_cell (hL.at_ (i := 0) rfl) rfl (by kernel_rfl) rfl (by kernel_rfl)) rfl ⟨by rw [HX.out, HY.out], hL.toBelow⟩))
set_option maxRecDepth 100000 in
set_option maxHeartbeats 1000000 in
theorem l01Next_any (x y side : Int) (w : World) (hx : -127 ≤ x ∧ x ≤ 126) (hy : -127 ≤ y ∧ y ≤ 126) :
    Calls Try.prog 75 #[.agg #[.int .i8 x, .int .i8 y], .int .i64 side] w fun e w' => e = .returned (.agg #[.int .i8 (nextX x side), .int .i8 (nextY y side)]) ∧ Below w.heap.size w w' := by
  have hL := Own.start w
  obtain ⟨x1, x2⟩ := hx
  obtain ⟨y1, y2⟩ := hy
  by_cases h0 : side = 0
  · subst h0
    have HX : Hid (nextX x 0 = x) := by show nextX _ _ = _; unfold nextX; simp
    have HY : Hid (nextY y 0 = (y - 1)) := by show nextY _ _ = _; unfold nextY; simp
    go_enter Try.func75, Try.ntmps75
    go_wp2_with (first
      | ((with_reducible refine gate_dst (N := 2) rfl ?_); refine wpl_box (cs := #[.int .i8 x, .int .i8 y]) hL rfl rfl rfl ?_; clear hL; intro g2 w2 hL)
      | ((with_reducible refine gate_dst (N := 4) rfl ?_); refine wpl_alloc (z := .agg (#[.int .i8 0, .int .i8 0])) (cs := #[.int .i8 0, .int .i8 0]) hL rfl rfl (by kernel_rfl) rfl ?_; clear hL; intro g4 w4 hL)
      | ((with_reducible refine gate_load (ty := 52) rfl ?_); refine wpl_loadW_1 hL rfl rfl (by kernel_rfl) rfl rfl (by kernel_rfl) ?_)
      | ((with_reducible refine gate_store (ty := 52) rfl ?_); refine wpl_storeW_0 (vs := #[.int .i8 x, .int .i8 (y - 1)]) hL rfl rfl rfl rfl rfl (by kernel_rfl) (by simp [Value.oneCell']) rfl ?_; clear hL; intro w5 hL)
      | ((with_reducible refine gate_load rfl ?_); first | (refine wpl_load_1 hL rfl rfl (by kernel_rfl) rfl (by first | rfl | assumption) ?_))
      | ((with_reducible refine gate_store rfl ?_); first | (refine wpl_store1_1 hL rfl rfl (by kernel_rfl) rfl rfl rfl (by first | assumption | (simp; done) | (simp [*]; done)) ?_; clear hL; intro w0_ hL; (try simp only [Act.eval, Array.getD_eq_getD_getElem?, List.getElem?_toArray, List.getElem?_cons_zero, List.getElem?_cons_succ, Option.getD_some, List.setIfInBounds_toArray, List.set_cons_zero, List.set_cons_succ] at hL)))
      | ((with_reducible refine post_gate ?_); exact post1 rfl (res_cell (hL.at_ (i := 0) rfl) rfl (by kernel_rfl) rfl (by kernel_rfl)) rfl ⟨by rw [HX.out, HY.out], hL.toBelow⟩))
  by_cases h1 : side = 1
  · subst h1
    have HX : Hid (nextX x 1 = (x + 1)) := by show nextX _ _ = _; unfold nextX; simp
    have HY : Hid (nextY y 1 = y) := by show nextY _ _ = _; unfold nextY; simp
    go_enter Try.func75, Try.ntmps75
    go_wp2_with (first
      | ((with_reducible refine gate_dst (N := 2) rfl ?_); refine wpl_box (cs := #[.int .i8 x, .int .i8 y]) hL rfl rfl rfl ?_; clear hL; intro g2 w2 hL)
      | ((with_reducible refine gate_dst (N := 4) rfl ?_); refine wpl_alloc (z := .agg (#[.int .i8 0, .int .i8 0])) (cs := #[.int .i8 0, .int .i8 0]) hL rfl rfl (by kernel_rfl) rfl ?_; clear hL; intro g4 w4 hL)
      | ((with_reducible refine gate_load (ty := 52) rfl ?_); refine wpl_loadW_1 hL rfl rfl (by kernel_rfl) rfl rfl (by kernel_rfl) ?_)
      | ((with_reducible refine gate_store (ty := 52) rfl ?_); refine wpl_storeW_0 (vs := #[.int .i8 (x + 1), .int .i8 y]) hL rfl rfl rfl rfl rfl (by kernel_rfl) (by simp [Value.oneCell']) rfl ?_; clear hL; intro w5 hL)
      | ((with_reducible refine gate_load rfl ?_); first | (refine wpl_load_1 hL rfl rfl (by kernel_rfl) rfl (by first | rfl | assumption) ?_))
      | ((with_reducible refine gate_store rfl ?_); first | (refine wpl_store1_1 hL rfl rfl (by kernel_rfl) rfl rfl rfl (by first | assumption | (simp; done) | (simp [*]; done)) ?_; clear hL; intro w0_ hL; (try simp only [Act.eval, Array.getD_eq_getD_getElem?, List.getElem?_toArray, List.getElem?_cons_zero, List.getElem?_cons_succ, Option.getD_some, List.setIfInBounds_toArray, List.set_cons_zero, List.set_cons_succ] at hL)))
      | ((with_reducible refine post_gate ?_); exact post1 rfl (res_cell (hL.at_ (i := 0) rfl) rfl (by kernel_rfl) rfl (by kernel_rfl)) rfl ⟨by rw [HX.out, HY.out], hL.toBelow⟩))
  by_cases h2 : side = 2
  · subst h2
    have HX : Hid (nextX x 2 = x) := by show nextX _ _ = _; unfold nextX; simp
    have HY : Hid (nextY y 2 = (y + 1)) := by show nextY _ _ = _; unfold nextY; simp
    go_enter Try.func75, Try.ntmps75
    go_wp2_with (first
      | ((with_reducible refine gate_dst (N := 2) rfl ?_); refine wpl_box (cs := #[.int .i8 x, .int .i8 y]) hL rfl rfl rfl ?_; clear hL; intro g2 w2 hL)
      | ((with_reducible refine gate_dst (N := 4) rfl ?_); refine wpl_alloc (z := .agg (#[.int .i8 0, .int .i8 0])) (cs := #[.int .i8 0, .int .i8 0]) hL rfl rfl (by kernel_rfl) rfl ?_; clear hL; intro g4 w4 hL)
      | ((with_reducible refine gate_load (ty := 52) rfl ?_); refine wpl_loadW_1 hL rfl rfl (by kernel_rfl) rfl rfl (by kernel_rfl) ?_)
      | ((with_reducible refine gate_store (ty := 52) rfl ?_); refine wpl_storeW_0 (vs := #[.int .i8 x, .int .i8 (y + 1)]) hL rfl rfl rfl rfl rfl (by kernel_rfl) (by simp [Value.oneCell']) rfl ?_; clear hL; intro w5 hL)
      | ((with_reducible refine gate_load rfl ?_); first | (refine wpl_load_1 hL rfl rfl (by kernel_rfl) rfl (by first | rfl | assumption) ?_))
      | ((with_reducible refine gate_store rfl ?_); first | (refine wpl_store1_1 hL rfl rfl (by kernel_rfl) rfl rfl rfl (by first | assumption | (simp; done) | (simp [*]; done)) ?_; clear hL; intro w0_ hL; (try simp only [Act.eval, Array.getD_eq_getD_getElem?, List.getElem?_toArray, List.getElem?_cons_zero, List.getElem?_cons_succ, Option.getD_some, List.setIfInBounds_toArray, List.set_cons_zero, List.set_cons_succ] at hL)))
      | ((with_reducible refine post_gate ?_); exact post1 rfl (res_cell (hL.at_ (i := 0) rfl) rfl (by kernel_rfl) rfl (by kernel_rfl)) rfl ⟨by rw [HX.out, HY.out], hL.toBelow⟩))
  have HX : Hid (nextX x side = (x - 1)) := by show nextX _ _ = _; unfold nextX; simp [h0, h1, h2]
  have HY : Hid (nextY y side = y) := by show nextY _ _ = _; unfold nextY; simp [h0, h1, h2]
  go_enter Try.func75, Try.ntmps75
  go_wp2_with (first
    | ((with_reducible refine gate_dst (N := 2) rfl ?_); refine wpl_box (cs := #[.int .i8 x, .int .i8 y]) hL rfl rfl rfl ?_; clear hL; intro g2 w2 hL)
    | ((with_reducible refine gate_dst (N := 4) rfl ?_); refine wpl_alloc (z := .agg (#[.int .i8 0, .int .i8 0])) (cs := #[.int .i8 0, .int .i8 0]) hL rfl rfl (by kernel_rfl) rfl ?_; clear hL; intro g4 w4 hL)
    | ((with_reducible refine gate_load (ty := 52) rfl ?_); refine wpl_loadW_1 hL rfl rfl (by kernel_rfl) rfl rfl (by kernel_rfl) ?_)
    | ((with_reducible refine gate_store (ty := 52) rfl ?_); refine wpl_storeW_0 (vs := #[.int .i8 (x - 1), .int .i8 y]) hL rfl rfl rfl rfl rfl (by kernel_rfl) (by simp [Value.oneCell']) rfl ?_; clear hL; intro w5 hL)
    | ((with_reducible refine gate_load rfl ?_); first | (refine wpl_load_1 hL rfl rfl (by kernel_rfl) rfl (by first | rfl | assumption) ?_))
    | ((with_reducible refine gate_store rfl ?_); first | (refine wpl_store1_1 hL rfl rfl (by kernel_rfl) rfl rfl rfl (by first | assumption | (simp; done) | (simp [*]; done)) ?_; clear hL; intro w0_ hL; (try simp only [Act.eval, Array.getD_eq_getD_getElem?, List.getElem?_toArray, List.getElem?_cons_zero, List.getElem?_cons_succ, Option.getD_some, List.setIfInBounds_toArray, List.set_cons_zero, List.set_cons_succ] at hL)))
    | ((with_reducible refine post_gate ?_); exact post1 rfl (res_cell (hL.at_ (i := 0) rfl) rfl (by kernel_rfl) rfl (by kernel_rfl)) rfl ⟨by rw [HX.out, HY.out], hL.toBelow⟩))
end Go.Proofs.Ytnafnhpajkhgkaa
/- The code of a pasture, a cell and one more thing asked. No condition. -/
namespace Go.Proofs.Ytnafnhpajkhgkaa
set_option linter.unusedVariables false
set_option linter.unusedSimpArgs false
open Go.RowKit Mem

theorem block_below0 {w w' : World} {g : Nat} {o : Obj} (h : w.heap[g]? = some o) (hb : Below w.heap.size w w') : w'.heap[g]? = some o := by
  rw [hb.block g (Array.getElem?_eq_some_iff.1 h).1]; exact h
/-- the code: 1 no pasture, 2 no cell or not as asked, 0 all right -/
def askC (p : Nat → Int) (x y : Int) (fine : Bool) : Int := if validP p then (if isC (p 0) (p 1) x y && fine then 0 else 2) else 1
set_option maxRecDepth 100000 in
set_option maxHeartbeats 1000000 in
theorem l01Asked_any (p : Nat → Int) (cs : Array Value) (T : TypeId) (g : Nat) (x y : Int) (fine : Bool) (w : World) (hp : Pv p cs) (hg : w.heap[g]? = some (.cells cs T (0, 0))) (hx : -128 ≤ x ∧ x ≤ 127) (hy : -128 ≤ y ∧ y ≤ 127) :
    Calls Try.prog 45 #[.pointer (some ⟨g, 0, none⟩), .agg #[.int .i8 x, .int .i8 y], .bool fine] w fun e w' => e = .returned (.int .i64 (askC p x y fine)) ∧ Below w.heap.size w w' := by
  have hL := Own.start w
  have HW := Lib.hid hg
  clear hg
  cases hv : validP p with
  | false =>
    have HZ : Hid (askC p x y fine = 1) := by show askC _ _ _ _ = 1; unfold askC; rw [hv]; rfl
    go_enter Try.func45, Try.ntmps45
    go_wp2_with (first
      | ((with_reducible refine gate_dst (N := 4) rfl ?_); refine wpl_box (cs := #[.int .i8 x, .int .i8 y]) hL rfl rfl rfl ?_; clear hL; intro g4 w4 hL)
      | (go_at_call 87; (with_reducible refine (l01Ok_any p cs T g _ hp (block_below0 HW.out hL.toBelow)).mono ?_); rintro e w4 ⟨rfl, hb⟩; rw [hv]; replace hL := hL.ext hb; clear hb))
    go_ret
    exact ⟨by rw [HZ.out]; rfl, hL.toBelow⟩
  | true =>
  have hsm : p 0 ≤ 10 ∧ p 1 ≤ 10 := by
    unfold validP inB at hv
    simp at hv
    omega
  obtain ⟨ha, hb0⟩ := hsm
  obtain ⟨c, hc⟩ : ∃ c, isC (p 0) (p 1) x y = c := ⟨_, rfl⟩
  have HZ : Hid (askC p x y fine = if c && fine then 0 else 2) := by show askC _ _ _ _ = _; unfold askC; rw [hv, hc]; rfl
  cases c <;> cases fine <;> (
    go_enter Try.func45, Try.ntmps45
    go_wp2_with (first
      | ((with_reducible refine gate_dst (N := 4) rfl ?_); refine wpl_box (cs := #[.int .i8 x, .int .i8 y]) hL rfl rfl rfl ?_; clear hL; intro g4 w4 hL)
      | ((with_reducible refine gate_load rfl ?_); refine wpl_loadW_0 hL rfl rfl (by kernel_rfl) rfl rfl (by kernel_rfl) ?_)
      | (go_at_call 87; (with_reducible refine (l01Ok_any p cs T g _ hp (block_below0 HW.out hL.toBelow)).mono ?_); rintro e w4 ⟨rfl, hb⟩; rw [hv]; replace hL := hL.ext hb; clear hb)
      | (go_at_call 88; (with_reducible refine (l01Is_any p cs T g x y _ hp (block_below0 HW.out hL.toBelow) ha hb0 hx hy).mono ?_); rintro e w4 ⟨rfl, hb⟩; rw [hc]; replace hL := hL.ext hb; clear hb))
    go_ret
    exact ⟨by rw [HZ.out]; rfl, hL.toBelow⟩)
end Go.Proofs.Ytnafnhpajkhgkaa
/- Pastures that are written: one cell after another; loads of rows and grass; blocks that a callee has written. No condition. -/
namespace Go.Proofs.Ytnafnhpajkhgkaa
set_option linter.unusedVariables false
set_option linter.unusedSimpArgs false
open Go.RowKit Mem Wk

def upd (p : Nat → Int) (i : Nat) (v : Int) : Nat → Int := fun j => if j = i then v else p j
theorem upd_at (p : Nat → Int) (i : Nat) (v : Int) : upd p i v i = v := by simp [upd]
theorem upd_ne (p : Nat → Int) {i j : Nat} (v : Int) (h : j ≠ i) : upd p i v j = p j := by simp [upd, h]
theorem Pv.setRow {p : Nat → Int} {cs : Array Value} {i : Nat} {v : Int} (hp : Pv p cs) (h1 : 102 ≤ i) (h2 : i < 122) (h3 : 0 ≤ v ∧ v ≤ 65535) : Pv (upd p i v) (cs.setIfInBounds i (.int .u16 v)) := by
  refine ⟨by simp [hp.size], fun j hj => ?_, fun j hj => by rw [upd_ne _ _ (by omega)]; exact hp.i8 j hj, fun j h h' => by rw [upd_ne _ _ (by omega)]; exact hp.i16 j h h', fun j h h' => ?_⟩
  · by_cases e : j = i
    · subst e
      have : pk j = .u16 := by unfold pk; rw [if_neg (by omega), if_neg (by omega)]
      rw [this, upd_at]; simp [hp.size, h2]
    · rw [upd_ne _ _ e, Array.getElem?_setIfInBounds_ne (by omega)]; exact hp.get j hj
  · by_cases e : j = i
    · subst e; rw [upd_at]; exact h3
    · rw [upd_ne _ _ e]; exact hp.u16 j h h'
/-! loads at the places that a walk spells -/
theorem Pv.eastA {p : Nat → Int} {cs : Array Value} {y : Int} (hp : Pv p cs) (h0 : 0 ≤ y) (h1 : y < 10) : cs[0 + 102 + y.toNat * 1]? = some (.int .u16 (p (102 + y.toNat))) := by
  rw [show 0 + 102 + y.toNat * 1 = 102 + y.toNat by omega]; exact hp.side _ (by omega) (by omega)
theorem Pv.southA {p : Nat → Int} {cs : Array Value} {y : Int} (hp : Pv p cs) (h0 : 0 ≤ y) (h1 : y < 10) : cs[0 + 112 + y.toNat * 1]? = some (.int .u16 (p (112 + y.toNat))) := by
  rw [show 0 + 112 + y.toNat * 1 = 112 + y.toNat by omega]; exact hp.side _ (by omega) (by omega)
/-! bits of rows -/
def bitB (v x : Int) : Bool := decide (andV .u16 (shrV .u16 v x) 1 = 1)
/-! a block that a callee has written -/
structure Upd (w w' : World) (g : Nat) (T : TypeId) (cs' : Array Value) : Prop where
  os : w'.os = w.os
  tape : w'.tape = w.tape
  output : w'.output = w.output
  size : w.heap.size ≤ w'.heap.size
  keep : ∀ k, k < w.heap.size → k ≠ g → w'.heap[k]? = w.heap[k]?
  has : w'.heap[g]? = some (.cells cs' T (0, 0))
theorem Upd.of {w0 w : World} {g : Nat} {T : TypeId} {cs' : Array Value} {L : List (Nat × TypeId × Array Value)} (h : Kn [g] w0 w L) (hm : (g, T, cs') ∈ L) : Upd w0 w g T cs' :=
  ⟨h.os, h.tape, h.output, h.size, fun k hk hne => Own.others h k hk hne, h.has _ hm⟩
theorem Kn.upd {O : List Nat} {w0 w w' : World} {L : List (Nat × TypeId × Array Value)} {i g : Nat} {T : TypeId} {cs cs' : Array Value} (h : Kn O w0 w L) (hi : L[i]? = some (g, T, cs)) (hu : Upd w w' g T cs') : Kn O w0 w' (L.set i (g, T, cs')) := by
  have h1 := h.put (cs' := cs') hi
  have hlt : ∀ x ∈ L, x.1 < w.heap.size := fun x hx => (Array.getElem?_eq_some_iff.1 (h.has x hx)).1
  have hgm : (g, T, cs) ∈ L := List.mem_of_getElem? hi
  have hsame : ∀ k, k < w.heap.size → w'.heap[k]? = (w.setRow g cs').heap[k]? := fun k hk => by
    by_cases e : k = g
    · subst e; rw [hu.has, setRow_heap w k cs cs' T (0, 0) (h.has _ hgm)]
    · rw [hu.keep k hk e, setRow_other w g k cs' e]
  have hmem : ∀ x ∈ L.set i (g, T, cs'), x.1 < w.heap.size := fun x hx => by
    have := (Array.getElem?_eq_some_iff.1 (h1.has x hx)).1
    simpa using this
  refine ⟨hu.os.trans h.os, hu.tape.trans h.tape, hu.output.trans h.output, Nat.le_trans h.size hu.size, h.base, fun k hk hx => ?_, h1.low, fun x hx => ?_, h1.nodup⟩
  · have hk' : k < w.heap.size := by have := h.size; omega
    rw [hsame k hk']; exact h1.keep k hk hx
  · rw [hsame x.1 (hmem x hx)]; exact h1.has x hx
theorem s_callM0 {P : Program} {ops : Array Oper} {Q : Exit → Act → World → Prop} {n : Nat} {O : List Nat} {w0 : World} {o : Oper} {rest : List Oper} {l : List (Nat × Value)} {L : List (Nat × TypeId × Array Value)} {g : Nat} {T : TypeId} {cs : Array Value} {f : FuncId} {fn : Func} {xs : Array Operand} {ts : Array TypeId} {vs : List Value} {d : Nat} {v : Value} {Pf : Array Value → Prop} (hf : P.funcs[f]? = some fn) (hname : (fn.name == "runtime.NumGoroutine") = false) (hb : fn.body.isSome = true) (hg : o.guard = none) (hd : o.dst = some d) (hn : Nat.blt d n = true) (hop : o.op = .call { callee := .value (.func f), args := xs, argTypes := ts }) (hargs : evs l xs.toList = some vs) (hc : ∀ w, Kn O w0 w ((g, T, cs) :: L) → w.heap[g]? = some (.cells cs T (0, 0)) → Calls P f vs.toArray w fun e w' => e = .returned v ∧ ∃ cs', Pf cs' ∧ Upd w w' g T cs') (h : ∀ cs', Pf cs' → S P ops Q n O w0 rest ((d, v) :: l) ((g, T, cs') :: L)) : S P ops Q n O w0 (o :: rest) l ((g, T, cs) :: L) := s_callR (ι := Array Value) Pf (fun _ => v) (fun c => (g, T, c) :: L) hf hname hb hg hd hn hop hargs (fun w hL => (hc w hL (hL.at_ m0)).mono fun e w' ⟨he, cs', hP, hu⟩ => ⟨cs', hP, he, Kn.upd (i := 0) hL rfl hu⟩) h
theorem setP {p : Nat → Int} {c cs : Array Value} (h : Pv p cs) (h8 : c.size = 122) : Wk.Set c 0 cs cs := set_whole (by rw [h.size, h8]) h.one
/-! what a type's zero is, what a struct's parts make -/
theorem zImplSpot : (Try.prog.info? 52).map (·.zero) = some (some (.agg #[.int .i8 0, .int .i8 0])) := by kernel_rfl
theorem zImplHurdle : (Try.prog.info? 66).map (·.zero) = some (some (.agg #[.int .i8 0, .int .i8 0, .bool false])) := by kernel_rfl
theorem bSpot (u v : Value) (hu : u.oneCell' = true) (hv : v.oneCell' = true) (w : World) : (Instr.build 52 #[(0, u), (1, v)]).run Try.prog w = .ok (.agg #[u, v]) w := by
  cases u <;> cases v <;> first | (simp [Value.oneCell'] at hu hv; done) | kernel_rfl
theorem bHurdle (a b c : Value) (hc : c.oneCell' = true) (w : World) : (Instr.build 66 #[(0, .agg #[a, b]), (1, c)]).run Try.prog w = .ok (.agg #[a, b, c]) w := by
  cases c <;> first | (simp [Value.oneCell'] at hc; done) | kernel_rfl
theorem zSet {cs vs cs' : Array Value} {off : Nat} (h : Wk.Set cs off vs cs' := by (first | exact setP zP_pv rfl | exact setP (by assumption) rfl | exact setP (by assumption) (Pv.size (by assumption)) | exact set_whole rfl (by simp [Value.oneCell', Hd.cells, Sp.cells, Sk.cells, Gt.cells]) | exact setl0 rfl | exact setl1 rfl | exact setl2 rfl | exact setl3 rfl | exact setl4 rfl | exact setl5 rfl | exact setl6 rfl | exact setl7 rfl | exact set2_0 rfl rfl | exact set2_2 rfl rfl)) : Wk.Set cs off vs cs' := h
theorem zLd {ty : TypeId} {off : Nat} {cs : Array Value} {v : Value} (h : Ldv Try.prog ty cs off v := by (first | exact ldvW tb rfl rfl | exact ldvW tb rfl (by assumption) | exact ldvW tb rfl (Pv.size (by assumption)) | exact ldvN tb rfl ext2_0 rfl | exact ldvN tb rfl ext2_2 rfl)) : Ldv Try.prog ty cs off v := h
theorem zLe {ty : TypeId} {off : Nat} {cs : Array Value} {v : Value} (h : Ldv Try.prog ty cs off v := by (first | exact ldvL tb rfl rfl | exact ldv1 tb rfl (by assumption) | exact ldvW tb rfl rfl | exact ldvW tb rfl (by assumption) | exact ldvW tb rfl (Pv.size (by assumption)) | exact ldvN tb rfl ext2_0 rfl | exact ldvN tb rfl ext2_2 rfl)) : Ldv Try.prog ty cs off v := h
end Go.Proofs.Ytnafnhpajkhgkaa
