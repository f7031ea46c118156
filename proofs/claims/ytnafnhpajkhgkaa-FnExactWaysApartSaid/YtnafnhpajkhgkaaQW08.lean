import Derived.Test.YtnafnhpajkhgkaaQW07
/- The spot beyond a side. No condition but that it can be told. -/
namespace Go.Proofs.Ytnafnhpajkhgkaa
set_option linter.unusedVariables false
set_option linter.unusedSimpArgs false
open Go.RowKit Mem

def nextX (x side : Int) : Int := if side = 0 then x else if side = 1 then x + 1 else if side = 2 then x else x - 1
def nextY (y side : Int) : Int := if side = 0 then y - 1 else if side = 1 then y else if side = 2 then y + 1 else y
set_option maxRecDepth 100000 in
set_option maxHeartbeats 1000000 in
theorem ahead_any (x y side : Int) (w : World) (hx : -127 ≤ x ∧ x ≤ 126) (hy : -127 ≤ y ∧ y ≤ 126) :
    Calls Try.prog 79 #[.agg #[.int .i8 x, .int .i8 y], .int .i64 side] w fun e w' => e = .returned (.agg #[.int .i8 (nextX x side), .int .i8 (nextY y side)]) ∧ Below w.heap.size w w' := by
  have hL := Own.start w
  obtain ⟨x1, x2⟩ := hx
  obtain ⟨y1, y2⟩ := hy
  by_cases h0 : side = 0
  · subst h0
    have HX : Hid (nextX x 0 = x) := by show nextX _ _ = _; unfold nextX; simp
    have HY : Hid (nextY y 0 = (y - 1)) := by show nextY _ _ = _; unfold nextY; simp
    go_enter Try.func79, Try.ntmps79
    go_wp2_with (first
      | ((with_reducible refine gate_dst (N := 2) rfl ?_); refine wpl_box (cs := #[.int .i8 x, .int .i8 y]) hL rfl rfl rfl ?_; clear hL; intro g2 w2 hL)
      | ((with_reducible refine gate_dst (N := 4) rfl ?_); refine wpl_alloc (z := .agg (#[.int .i8 0, .int .i8 0])) (cs := #[.int .i8 0, .int .i8 0]) hL rfl rfl (by kernel_rfl) rfl ?_; clear hL; intro g4 w4 hL)
      | ((with_reducible refine gate_load (ty := 52) rfl ?_); refine wpl_loadW_1 hL rfl rfl (by kernel_rfl) rfl rfl (by kernel_rfl) ?_)
      | ((with_reducible refine gate_store (ty := 52) rfl ?_); refine wpl_storeW_0 (vs := #[.int .i8 x, .int .i8 (y - 1)]) hL rfl rfl rfl rfl rfl (by kernel_rfl) (by simp [Value.oneCell']) rfl ?_; clear hL; intro w5 hL)
      | ((with_reducible refine gate_load rfl ?_); first | (refine wpl_load_1 hL rfl rfl (by kernel_rfl) rfl (by first | rfl | assumption) ?_))
      | ((with_reducible refine gate_store rfl ?_); first | (refine wpl_store1_1 hL rfl rfl (by kernel_rfl) rfl rfl rfl (by first | assumption | (simp; done) | (simp [*]; done)) ?_; clear hL; intro w0_ hL; (try simp only [Act.eval, Array.getD_eq_getD_getElem?, List.getElem?_toArray, List.getElem?_cons_zero, List.getElem?_cons_succ, Option.getD_some, List.setIfInBounds_toArray, List.set_cons_zero, List.set_cons_succ] at hL)))
      | ((with_reducible refine post_gate ?_); exact post1 rfl (res_cell (hL.at_ (i := 0) rfl) rfl (by kernel_rfl) rfl (by kernel_rfl)) rfl ⟨by rw [HX.out, HY.out], hL.toBelow⟩))
  by_cases h1 : side = 1
  · subst h1
    have HX : Hid (nextX x 1 = (x + 1)) := by show nextX _ _ = _; unfold nextX; simp
    have HY : Hid (nextY y 1 = y) := by show nextY _ _ = _; unfold nextY; simp
    go_enter Try.func79, Try.ntmps79
    go_wp2_with (first
      | ((with_reducible refine gate_dst (N := 2) rfl ?_); refine wpl_box (cs := #[.int .i8 x, .int .i8 y]) hL rfl rfl rfl ?_; clear hL; intro g2 w2 hL)
      | ((with_reducible refine gate_dst (N := 4) rfl ?_); refine wpl_alloc (z := .agg (#[.int .i8 0, .int .i8 0])) (cs := #[.int .i8 0, .int .i8 0]) hL rfl rfl (by kernel_rfl) rfl ?_; clear hL; intro g4 w4 hL)
      | ((with_reducible refine gate_load (ty := 52) rfl ?_); refine wpl_loadW_1 hL rfl rfl (by kernel_rfl) rfl rfl (by kernel_rfl) ?_)
      | ((with_reducible refine gate_store (ty := 52) rfl ?_); refine wpl_storeW_0 (vs := #[.int .i8 (x + 1), .int .i8 y]) hL rfl rfl rfl rfl rfl (by kernel_rfl) (by simp [Value.oneCell']) rfl ?_; clear hL; intro w5 hL)
      | ((with_reducible refine gate_load rfl ?_); first | (refine wpl_load_1 hL rfl rfl (by kernel_rfl) rfl (by first | rfl | assumption) ?_))
      | ((with_reducible refine gate_store rfl ?_); first | (refine wpl_store1_1 hL rfl rfl (by kernel_rfl) rfl rfl rfl (by first | assumption | (simp; done) | (simp [*]; done)) ?_; clear hL; intro w0_ hL; (try simp only [Act.eval, Array.getD_eq_getD_getElem?, List.getElem?_toArray, List.getElem?_cons_zero, List.getElem?_cons_succ, Option.getD_some, List.setIfInBounds_toArray, List.set_cons_zero, List.set_cons_succ] at hL)))
      | ((with_reducible refine post_gate ?_); exact post1 rfl (res_cell (hL.at_ (i := 0) rfl) rfl (by kernel_rfl) rfl (by kernel_rfl)) rfl ⟨by rw [HX.out, HY.out], hL.toBelow⟩))
  by_cases h2 : side = 2
  · subst h2
    have HX : Hid (nextX x 2 = x) := by show nextX _ _ = _; unfold nextX; simp
    have HY : Hid (nextY y 2 = (y + 1)) := by show nextY _ _ = _; unfold nextY; simp
    go_enter Try.func79, Try.ntmps79
    go_wp2_with (first
      | ((with_reducible refine gate_dst (N := 2) rfl ?_); refine wpl_box (cs := #[.int .i8 x, .int .i8 y]) hL rfl rfl rfl ?_; clear hL; intro g2 w2 hL)
      | ((with_reducible refine gate_dst (N := 4) rfl ?_); refine wpl_alloc (z := .agg (#[.int .i8 0, .int .i8 0])) (cs := #[.int .i8 0, .int .i8 0]) hL rfl rfl (by kernel_rfl) rfl ?_; clear hL; intro g4 w4 hL)
      | ((with_reducible refine gate_load (ty := 52) rfl ?_); refine wpl_loadW_1 hL rfl rfl (by kernel_rfl) rfl rfl (by kernel_rfl) ?_)
      | ((with_reducible refine gate_store (ty := 52) rfl ?_); refine wpl_storeW_0 (vs := #[.int .i8 x, .int .i8 (y + 1)]) hL rfl rfl rfl rfl rfl (by kernel_rfl) (by simp [Value.oneCell']) rfl ?_; clear hL; intro w5 hL)
      | ((with_reducible refine gate_load rfl ?_); first | (refine wpl_load_1 hL rfl rfl (by kernel_rfl) rfl (by first | rfl | assumption) ?_))
      | ((with_reducible refine gate_store rfl ?_); first | (refine wpl_store1_1 hL rfl rfl (by kernel_rfl) rfl rfl rfl (by first | assumption | (simp; done) | (simp [*]; done)) ?_; clear hL; intro w0_ hL; (try simp only [Act.eval, Array.getD_eq_getD_getElem?, List.getElem?_toArray, List.getElem?_cons_zero, List.getElem?_cons_succ, Option.getD_some, List.setIfInBounds_toArray, List.set_cons_zero, List.set_cons_succ] at hL)))
      | ((with_reducible refine post_gate ?_); exact post1 rfl (res_cell (hL.at_ (i := 0) rfl) rfl (by kernel_rfl) rfl (by kernel_rfl)) rfl ⟨by rw [HX.out, HY.out], hL.toBelow⟩))
  have HX : Hid (nextX x side = (x - 1)) := by show nextX _ _ = _; unfold nextX; simp [h0, h1, h2]
  have HY : Hid (nextY y side = y) := by show nextY _ _ = _; unfold nextY; simp [h0, h1, h2]
  go_enter Try.func79, Try.ntmps79
  go_wp2_with (first
    | ((with_reducible refine gate_dst (N := 2) rfl ?_); refine wpl_box (cs := #[.int .i8 x, .int .i8 y]) hL rfl rfl rfl ?_; clear hL; intro g2 w2 hL)
    | ((with_reducible refine gate_dst (N := 4) rfl ?_); refine wpl_alloc (z := .agg (#[.int .i8 0, .int .i8 0])) (cs := #[.int .i8 0, .int .i8 0]) hL rfl rfl (by kernel_rfl) rfl ?_; clear hL; intro g4 w4 hL)
    | ((with_reducible refine gate_load (ty := 52) rfl ?_); refine wpl_loadW_1 hL rfl rfl (by kernel_rfl) rfl rfl (by kernel_rfl) ?_)
    | ((with_reducible refine gate_store (ty := 52) rfl ?_); refine wpl_storeW_0 (vs := #[.int .i8 (x - 1), .int .i8 y]) hL rfl rfl rfl rfl rfl (by kernel_rfl) (by simp [Value.oneCell']) rfl ?_; clear hL; intro w5 hL)
    | ((with_reducible refine gate_load rfl ?_); first | (refine wpl_load_1 hL rfl rfl (by kernel_rfl) rfl (by first | rfl | assumption) ?_))
    | ((with_reducible refine gate_store rfl ?_); first | (refine wpl_store1_1 hL rfl rfl (by kernel_rfl) rfl rfl rfl (by first | assumption | (simp; done) | (simp [*]; done)) ?_; clear hL; intro w0_ hL; (try simp only [Act.eval, Array.getD_eq_getD_getElem?, List.getElem?_toArray, List.getElem?_cons_zero, List.getElem?_cons_succ, Option.getD_some, List.setIfInBounds_toArray, List.set_cons_zero, List.set_cons_succ] at hL)))
    | ((with_reducible refine post_gate ?_); exact post1 rfl (res_cell (hL.at_ (i := 0) rfl) rfl (by kernel_rfl) rfl (by kernel_rfl)) rfl ⟨by rw [HX.out, HY.out], hL.toBelow⟩))
set_option maxRecDepth 100000 in
set_option maxHeartbeats 1000000 in
theorem l01Next_any (x y side : Int) (w : World) (hx : -127 ≤ x ∧ x ≤ 126) (hy : -127 ≤ y ∧ y ≤ 126) :
    Calls Try.prog 75 #[.agg #[.int .i8 x, .int .i8 y], .int .i64 side] w fun e w' => e = .returned (.agg #[.int .i8 (nextX x side), .int .i8 (nextY y side)]) ∧ Below w.heap.size w w' := by
  have hL := Own.start w
  obtain ⟨x1, x2⟩ := hx
  obtain ⟨y1, y2⟩ := hy
  by_cases h0 : side = 0
  · subst h0
    have HX : Hid (nextX x 0 = x) := by show nextX _ _ = _; unfold nextX; simp
    have HY : Hid (nextY y 0 = (y - 1)) := by show nextY _ _ = _; unfold nextY; simp
    go_enter Try.func75, Try.ntmps75
    go_wp2_with (first
      | ((with_reducible refine gate_dst (N := 2) rfl ?_); refine wpl_box (cs := #[.int .i8 x, .int .i8 y]) hL rfl rfl rfl ?_; clear hL; intro g2 w2 hL)
      | ((with_reducible refine gate_dst (N := 4) rfl ?_); refine wpl_alloc (z := .agg (#[.int .i8 0, .int .i8 0])) (cs := #[.int .i8 0, .int .i8 0]) hL rfl rfl (by kernel_rfl) rfl ?_; clear hL; intro g4 w4 hL)
      | ((with_reducible refine gate_load (ty := 52) rfl ?_); refine wpl_loadW_1 hL rfl rfl (by kernel_rfl) rfl rfl (by kernel_rfl) ?_)
      | ((with_reducible refine gate_store (ty := 52) rfl ?_); refine wpl_storeW_0 (vs := #[.int .i8 x, .int .i8 (y - 1)]) hL rfl rfl rfl rfl rfl (by kernel_rfl) (by simp [Value.oneCell']) rfl ?_; clear hL; intro w5 hL)
      | ((with_reducible refine gate_load rfl ?_); first | (refine wpl_load_1 hL rfl rfl (by kernel_rfl) rfl (by first | rfl | assumption) ?_))
      | ((with_reducible refine gate_store rfl ?_); first | (refine wpl_store1_1 hL rfl rfl (by kernel_rfl) rfl rfl rfl (by first | assumption | (simp; done) | (simp [*]; done)) ?_; clear hL; intro w0_ hL; (try simp only [Act.eval, Array.getD_eq_getD_getElem?, List.getElem?_toArray, List.getElem?_cons_zero, List.getElem?_cons_succ, Option.getD_some, List.setIfInBounds_toArray, List.set_cons_zero, List.set_cons_succ] at hL)))
      | ((with_reducible refine post_gate ?_); exact post1 rfl (res_cell (hL.at_ (i := 0) rfl) rfl (by kernel_rfl) rfl (by kernel_rfl)) rfl ⟨by rw [HX.out, HY.out], hL.toBelow⟩))
  by_cases h1 : side = 1
  · subst h1
    have HX : Hid (nextX x 1 = (x + 1)) := by show nextX _ _ = _; unfold nextX; simp
    have HY : Hid (nextY y 1 = y) := by show nextY _ _ = _; unfold nextY; simp
    go_enter Try.func75, Try.ntmps75
    go_wp2_with (first
      | ((with_reducible refine gate_dst (N := 2) rfl ?_); refine wpl_box (cs := #[.int .i8 x, .int .i8 y]) hL rfl rfl rfl ?_; clear hL; intro g2 w2 hL)
      | ((with_reducible refine gate_dst (N := 4) rfl ?_); refine wpl_alloc (z := .agg (#[.int .i8 0, .int .i8 0])) (cs := #[.int .i8 0, .int .i8 0]) hL rfl rfl (by kernel_rfl) rfl ?_; clear hL; intro g4 w4 hL)
      | ((with_reducible refine gate_load (ty := 52) rfl ?_); refine wpl_loadW_1 hL rfl rfl (by kernel_rfl) rfl rfl (by kernel_rfl) ?_)
      | ((with_reducible refine gate_store (ty := 52) rfl ?_); refine wpl_storeW_0 (vs := #[.int .i8 (x + 1), .int .i8 y]) hL rfl rfl rfl rfl rfl (by kernel_rfl) (by simp [Value.oneCell']) rfl ?_; clear hL; intro w5 hL)
      | ((with_reducible refine gate_load rfl ?_); first | (refine wpl_load_1 hL rfl rfl (by kernel_rfl) rfl (by first | rfl | assumption) ?_))
      | ((with_reducible refine gate_store rfl ?_); first | (refine wpl_store1_1 hL rfl rfl (by kernel_rfl) rfl rfl rfl (by first | assumption | (simp; done) | (simp [*]; done)) ?_; clear hL; intro w0_ hL; (try simp only [Act.eval, Array.getD_eq_getD_getElem?, List.getElem?_toArray, List.getElem?_cons_zero, List.getElem?_cons_succ, Option.getD_some, List.setIfInBounds_toArray, List.set_cons_zero, List.set_cons_succ] at hL)))
      | ((with_reducible refine post_gate ?_); exact post1 rfl (res_cell (hL.at_ (i := 0) rfl) rfl (by kernel_rfl) rfl (by kernel_rfl)) rfl ⟨by rw [HX.out, HY.out], hL.toBelow⟩))
  by_cases h2 : side = 2
  · subst h2
    have HX : Hid (nextX x 2 = x) := by show nextX _ _ = _; unfold nextX; simp
    have HY : Hid (nextY y 2 = (y + 1)) := by show nextY _ _ = _; unfold nextY; simp
    go_enter Try.func75, Try.ntmps75
    go_wp2_with (first
      | ((with_reducible refine gate_dst (N := 2) rfl ?_); refine wpl_box (cs := #[.int .i8 x, .int .i8 y]) hL rfl rfl rfl ?_; clear hL; intro g2 w2 hL)
      | ((with_reducible refine gate_dst (N := 4) rfl ?_); refine wpl_alloc (z := .agg (#[.int .i8 0, .int .i8 0])) (cs := #[.int .i8 0, .int .i8 0]) hL rfl rfl (by kernel_rfl) rfl ?_; clear hL; intro g4 w4 hL)
      | ((with_reducible refine gate_load (ty := 52) rfl ?_); refine wpl_loadW_1 hL rfl rfl (by kernel_rfl) rfl rfl (by kernel_rfl) ?_)
      | ((with_reducible refine gate_store (ty := 52) rfl ?_); refine wpl_storeW_0 (vs := #[.int .i8 x, .int .i8 (y + 1)]) hL rfl rfl rfl rfl rfl (by kernel_rfl) (by simp [Value.oneCell']) rfl ?_; clear hL; intro w5 hL)
      | ((with_reducible refine gate_load rfl ?_); first | (refine wpl_load_1 hL rfl rfl (by kernel_rfl) rfl (by first | rfl | assumption) ?_))
      | ((with_reducible refine gate_store rfl ?_); first | (refine wpl_store1_1 hL rfl rfl (by kernel_rfl) rfl rfl rfl (by first | assumption | (simp; done) | (simp [*]; done)) ?_; clear hL; intro w0_ hL; (try simp only [Act.eval, Array.getD_eq_getD_getElem?, List.getElem?_toArray, List.getElem?_cons_zero, List.getElem?_cons_succ, Option.getD_some, List.setIfInBounds_toArray, List.set_cons_zero, List.set_cons_succ] at hL)))
      | ((with_reducible refine post_gate ?_); exact post1 rfl (res_cell (hL.at_ (i := 0) rfl) rfl (by kernel_rfl) rfl (by kernel_rfl)) rfl ⟨by rw [HX.out, HY.out], hL.toBelow⟩))
  have HX : Hid (nextX x side = (x - 1)) := by show nextX _ _ = _; unfold nextX; simp [h0, h1, h2]
  have HY : Hid (nextY y side = y) := by show nextY _ _ = _; unfold nextY; simp [h0, h1, h2]
  go_enter Try.func75, Try.ntmps75
  go_wp2_with (first
    | ((with_reducible refine gate_dst (N := 2) rfl ?_); refine wpl_box (cs := #[.int .i8 x, .int .i8 y]) hL rfl rfl rfl ?_; clear hL; intro g2 w2 hL)
    | ((with_reducible refine gate_dst (N := 4) rfl ?_); refine wpl_alloc (z := .agg (#[.int .i8 0, .int .i8 0])) (cs := #[.int .i8 0, .int .i8 0]) hL rfl rfl (by kernel_rfl) rfl ?_; clear hL; intro g4 w4 hL)
    | ((with_reducible refine gate_load (ty := 52) rfl ?_); refine wpl_loadW_1 hL rfl rfl (by kernel_rfl) rfl rfl (by kernel_rfl) ?_)
    | ((with_reducible refine gate_store (ty := 52) rfl ?_); refine wpl_storeW_0 (vs := #[.int .i8 (x - 1), .int .i8 y]) hL rfl rfl rfl rfl rfl (by kernel_rfl) (by simp [Value.oneCell']) rfl ?_; clear hL; intro w5 hL)
    | ((with_reducible refine gate_load rfl ?_); first | (refine wpl_load_1 hL rfl rfl (by kernel_rfl) rfl (by first | rfl | assumption) ?_))
    | ((with_reducible refine gate_store rfl ?_); first | (refine wpl_store1_1 hL rfl rfl (by kernel_rfl) rfl rfl rfl (by first | assumption | (simp; done) | (simp [*]; done)) ?_; clear hL; intro w0_ hL; (try simp only [Act.eval, Array.getD_eq_getD_getElem?, List.getElem?_toArray, List.getElem?_cons_zero, List.getElem?_cons_succ, Option.getD_some, List.setIfInBounds_toArray, List.set_cons_zero, List.set_cons_succ] at hL)))
    | ((with_reducible refine post_gate ?_); exact post1 rfl (res_cell (hL.at_ (i := 0) rfl) rfl (by kernel_rfl) rfl (by kernel_rfl)) rfl ⟨by rw [HX.out, HY.out], hL.toBelow⟩))
end Go.Proofs.Ytnafnhpajkhgkaa
/- The code of a pasture, a cell and one more thing asked. No condition. -/
namespace Go.Proofs.Ytnafnhpajkhgkaa
set_option linter.unusedVariables false
set_option linter.unusedSimpArgs false
open Go.RowKit Mem

theorem block_below0 {w w' : World} {g : Nat} {o : Obj} (h : w.heap[g]? = some o) (hb : Below w.heap.size w w') : w'.heap[g]? = some o := by
  rw [hb.block g (Array.getElem?_eq_some_iff.1 h).1]; exact h
/-- the code: 1 no pasture, 2 no cell or not as asked, 0 all right -/
def askC (p : Nat → Int) (x y : Int) (fine : Bool) : Int := if validP p then (if isC (p 0) (p 1) x y && fine then 0 else 2) else 1
set_option maxRecDepth 100000 in
set_option maxHeartbeats 1000000 in
theorem l01Asked_any (p : Nat → Int) (cs : Array Value) (T : TypeId) (g : Nat) (x y : Int) (fine : Bool) (w : World) (hp : Pv p cs) (hg : w.heap[g]? = some (.cells cs T (0, 0))) (hx : -128 ≤ x ∧ x ≤ 127) (hy : -128 ≤ y ∧ y ≤ 127) :
    Calls Try.prog 45 #[.pointer (some ⟨g, 0, none⟩), .agg #[.int .i8 x, .int .i8 y], .bool fine] w fun e w' => e = .returned (.int .i64 (askC p x y fine)) ∧ Below w.heap.size w w' := by
  have hL := Own.start w
  have HW := Lib.hid hg
  clear hg
  cases hv : validP p with
  | false =>
    have HZ : Hid (askC p x y fine = 1) := by show askC _ _ _ _ = 1; unfold askC; rw [hv]; rfl
    go_enter Try.func45, Try.ntmps45
    go_wp2_with (first
      | ((with_reducible refine gate_dst (N := 4) rfl ?_); refine wpl_box (cs := #[.int .i8 x, .int .i8 y]) hL rfl rfl rfl ?_; clear hL; intro g4 w4 hL)
      | (go_at_call 87; (with_reducible refine (l01Ok_any p cs T g _ hp (block_below0 HW.out hL.toBelow)).mono ?_); rintro e w4 ⟨rfl, hb⟩; rw [hv]; replace hL := hL.ext hb; clear hb))
    go_ret
    exact ⟨by rw [HZ.out]; rfl, hL.toBelow⟩
  | true =>
  have hsm : p 0 ≤ 10 ∧ p 1 ≤ 10 := by
    unfold validP inB at hv
    simp at hv
    omega
  obtain ⟨ha, hb0⟩ := hsm
  obtain ⟨c, hc⟩ : ∃ c, isC (p 0) (p 1) x y = c := ⟨_, rfl⟩
  have HZ : Hid (askC p x y fine = if c && fine then 0 else 2) := by show askC _ _ _ _ = _; unfold askC; rw [hv, hc]; rfl
  cases c <;> cases fine <;> (
    go_enter Try.func45, Try.ntmps45
    go_wp2_with (first
      | ((with_reducible refine gate_dst (N := 4) rfl ?_); refine wpl_box (cs := #[.int .i8 x, .int .i8 y]) hL rfl rfl rfl ?_; clear hL; intro g4 w4 hL)
      | ((with_reducible refine gate_load rfl ?_); refine wpl_loadW_0 hL rfl rfl (by kernel_rfl) rfl rfl (by kernel_rfl) ?_)
      | (go_at_call 87; (with_reducible refine (l01Ok_any p cs T g _ hp (block_below0 HW.out hL.toBelow)).mono ?_); rintro e w4 ⟨rfl, hb⟩; rw [hv]; replace hL := hL.ext hb; clear hb)
      | (go_at_call 88; (with_reducible refine (l01Is_any p cs T g x y _ hp (block_below0 HW.out hL.toBelow) ha hb0 hx hy).mono ?_); rintro e w4 ⟨rfl, hb⟩; rw [hc]; replace hL := hL.ext hb; clear hb))
    go_ret
    exact ⟨by rw [HZ.out]; rfl, hL.toBelow⟩)
end Go.Proofs.Ytnafnhpajkhgkaa
