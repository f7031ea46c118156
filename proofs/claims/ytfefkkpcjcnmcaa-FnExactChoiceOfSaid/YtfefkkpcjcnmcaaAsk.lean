/- The code of a pasture, a cell and one more thing asked. No condition. -/
import Derived.Test.YtfefkkpcjcnmcaaDir
namespace Go.Proofs.Ytfefkkpcjcnmcaa
set_option linter.unusedVariables false
set_option linter.unusedSimpArgs false
open Go.RowKit Mem

theorem block_below0 {w w' : World} {g : Nat} {o : Obj} (h : w.heap[g]? = some o) (hb : Below w.heap.size w w') : w'.heap[g]? = some o := by
  rw [hb.block g (Array.getElem?_eq_some_iff.1 h).1]; exact h
/-- the code: 1 no pasture, 2 no cell or not as asked, 0 all right -/
def askC (p : Nat → Int) (x y : Int) (fine : Bool) : Int := if validP p then (if isC (p 0) (p 1) x y && fine then 0 else 2) else 1
set_option maxRecDepth 100000 in
set_option maxHeartbeats 1000000 in
theorem l01Asked_any (p : Nat → Int) (cs : Array Value) (T : TypeId) (g : Nat) (x y : Int) (fine : Bool) (w : World) (hp : Pv p cs) (hg : w.heap[g]? = some (.cells cs T (0, 0))) (hx : -128 ≤ x ∧ x ≤ 127) (hy : -128 ≤ y ∧ y ≤ 127) :
    Calls Try.prog 112 #[.pointer (some ⟨g, 0, none⟩), .agg #[.int .i8 x, .int .i8 y], .bool fine] w fun e w' => e = .returned (.int .i64 (askC p x y fine)) ∧ Below w.heap.size w w' := by
  have hL := Own.start w
  have HW := Lib.hid hg
  clear hg
  cases hv : validP p with
  | false =>
    have HZ : Hid (askC p x y fine = 1) := by show askC _ _ _ _ = 1; unfold askC; rw [hv]; rfl
    go_enter Try.func112, Try.ntmps112
    go_wp2_with (first
      | ((with_reducible refine gate_dst (N := 4) rfl ?_); refine wpl_box (cs := #[.int .i8 x, .int .i8 y]) hL rfl rfl rfl ?_; clear hL; intro g4 w4 hL)
      | (go_at_call 135; (with_reducible refine (l01Ok_any p cs T g _ hp (block_below0 HW.out hL.toBelow)).mono ?_); rintro e w4 ⟨rfl, hb⟩; rw [hv]; replace hL := hL.ext hb; clear hb))
    go_ret
    exact ⟨by rw [HZ.out]; rfl, hL.toBelow⟩
  | true =>
  have hsm : p 0 ≤ 10 ∧ p 1 ≤ 10 := by
    unfold validP inB at hv
    simp at hv
    omega
  obtain ⟨ha, hb0⟩ := hsm
  obtain ⟨c, hc⟩ : ∃ c, isC (p 0) (p 1) x y = c := ⟨_, rfl⟩
  have HZ : Hid (askC p x y fine = if c && fine then 0 else 2) := by show askC _ _ _ _ = _; unfold askC; rw [hv, hc]; rfl
  cases c <;> cases fine <;> (
    go_enter Try.func112, Try.ntmps112
    go_wp2_with (first
      | ((with_reducible refine gate_dst (N := 4) rfl ?_); refine wpl_box (cs := #[.int .i8 x, .int .i8 y]) hL rfl rfl rfl ?_; clear hL; intro g4 w4 hL)
      | ((with_reducible refine gate_load rfl ?_); refine wpl_loadW_0 hL rfl rfl (by kernel_rfl) rfl rfl (by kernel_rfl) ?_)
      | (go_at_call 135; (with_reducible refine (l01Ok_any p cs T g _ hp (block_below0 HW.out hL.toBelow)).mono ?_); rintro e w4 ⟨rfl, hb⟩; rw [hv]; replace hL := hL.ext hb; clear hb)
      | (go_at_call 154; (with_reducible refine (l01Is_any p cs T g x y _ hp (block_below0 HW.out hL.toBelow) ha hb0 hx hy).mono ?_); rintro e w4 ⟨rfl, hb⟩; rw [hc]; replace hL := hL.ext hb; clear hb))
    go_ret
    exact ⟨by rw [HZ.out]; rfl, hL.toBelow⟩)
end Go.Proofs.Ytfefkkpcjcnmcaa
