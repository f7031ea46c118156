/- TieGoat: the reference's. No condition. -/
import Derived.Test.YtjflellnbafbaaaTie
namespace Go.Proofs.Ytjflellnbafbaaa
set_option linter.unusedVariables false
set_option linter.unusedSimpArgs false
open Go.RowKit Mem
attribute [local irreducible] Calm.wpLex

def okC (p : Nat → Int) (g : Gt) : Int := if validGt p [g] then 0 else 1
theorem own_cells {w : World} {b : Nat} {T : TypeId} (g : Gt) (h : w.heap[b]? = some (.cells #[.int .i8 g.x, .int .i8 g.y, .int .i8 g.u, .int .i8 g.v, .int .i16 g.rope, .int .i16 g.eats, .int .i8 g.likes] T (0, 0))) : CellsAt w b 0 g.cells := fun j q hq => by
  rw [cell_of_row w b (0 + j) _ T (0, 0) h, Nat.zero_add]
  simpa [Gt.cells] using hq
set_option maxRecDepth 100000 in
set_option maxHeartbeats 1000000 in
theorem l02One_any (p : Nat → Int) (cs : Array Value) (T : TypeId) (gp b off : Nat) (g : Gt) (w : World) (hp : Pv p cs) (hw : w.heap[gp]? = some (.cells cs T (0, 0))) (hg : g.ok) (hc : CellsAt w b off g.cells) :
    Calls Try.prog 72 #[.pointer (some ⟨gp, 0, none⟩), .pointer (some ⟨b, off, none⟩)] w fun e w' => e = .returned (.int .i64 (okC p g)) ∧ Below w.heap.size w w' := by
  have hL := Own.start w
  have HW := Lib.hid hw
  have HC := Lib.hid hc
  cases hv : validP p with
  | false =>
    have HZ : Hid (okC p g = 1) := by show okC p g = 1; unfold okC; rw [valid_one, hv]; rfl
    go_enter Try.func72, Try.ntmps72
    go_wp2_with (first
      | (go_at_call 78; (with_reducible refine (l01Ok_any p cs T gp _ hp (block_below HW.out hL.toBelow)).mono ?_); rintro e w4 ⟨rfl, hb⟩; rw [hv]; replace hL := hL.ext hb; clear hb))
    go_ret
    exact ⟨by rw [HZ.out]; rfl, hL.toBelow⟩
  | true =>
  obtain ⟨ha, hb0⟩ := valid_small hv
  cases hgo : goatOk p g with
  | false =>
    have HZ : Hid (okC p g = 1) := by show okC p g = 1; unfold okC; rw [valid_one, hv, hgo]; rfl
    go_enter Try.func72, Try.ntmps72
    go_wp2_with (first
      | (go_at_call 78; (with_reducible refine (l01Ok_any p cs T gp _ hp (block_below HW.out hL.toBelow)).mono ?_); rintro e w4 ⟨rfl, hb⟩; rw [hv]; replace hL := hL.ext hb; clear hb)
      | (go_at_call 108; (with_reducible refine (l02Goat_any p cs T gp b off g _ hp (block_below HW.out hL.toBelow) ha hb0 hg (HC.out.below hL.toBelow)).mono ?_); rintro e w4 ⟨rfl, hb⟩; rw [hgo]; replace hL := hL.ext hb; clear hb))
    go_ret
    exact ⟨by rw [HZ.out]; rfl, hL.toBelow⟩
  | true =>
    have HZ : Hid (okC p g = 0) := by show okC p g = 0; unfold okC; rw [valid_one, hv, hgo]; rfl
    go_enter Try.func72, Try.ntmps72
    go_wp2_with (first
      | (go_at_call 78; (with_reducible refine (l01Ok_any p cs T gp _ hp (block_below HW.out hL.toBelow)).mono ?_); rintro e w4 ⟨rfl, hb⟩; rw [hv]; replace hL := hL.ext hb; clear hb)
      | (go_at_call 108; (with_reducible refine (l02Goat_any p cs T gp b off g _ hp (block_below HW.out hL.toBelow) ha hb0 hg (HC.out.below hL.toBelow)).mono ?_); rintro e w4 ⟨rfl, hb⟩; rw [hgo]; replace hL := hL.ext hb; clear hb))
    go_ret
    exact ⟨by rw [HZ.out]; rfl, hL.toBelow⟩
set_option maxRecDepth 100000 in
set_option maxHeartbeats 2000000 in
theorem specTieGoat_any (p : Nat → Int) (cs : Array Value) (x y u v rope eats likes r : Int) (w : World) (hp : Pv p cs) (hg : (Gt.mk x y u v rope eats likes).ok) :
    Calls Try.prog 31 #[.agg cs, .agg #[.int .i8 x, .int .i8 y, .int .i8 u, .int .i8 v, .int .i16 rope, .int .i16 eats, .int .i8 likes], .int .i64 r] w fun e w' => e = .returned (tieV p x y u v rope eats likes r) ∧ Below w.heap.size w w' := by
  have hL := Own.start w
  have HG := Lib.hid hg
  obtain ⟨c, hc⟩ : ∃ c, validGt p [⟨x, y, u, v, rope, eats, likes⟩] = c := ⟨_, rfl⟩
  obtain ⟨d, hd⟩ : ∃ d, inB r 0 200 = d := ⟨_, rfl⟩
  have HCO : Hid (tieC p ⟨x, y, u, v, rope, eats, likes⟩ r = (if c then (if d then 0 else 2) else 1)) := by show tieC _ _ _ = _; unfold tieC; rw [hc, hd]
  have HD := Lib.hid hd
  have hr : Hid (d = true → 0 ≤ r ∧ r ≤ 200) := fun h => by
    have := HD.out
    rw [h] at this
    simpa [inB] using this
  cases c with
  | false =>
    have HZ : Hid (tieV p x y u v rope eats likes r = .tuple #[.agg #[.int .i8 0, .int .i8 0, .int .i8 0, .int .i8 0, .int .i16 0, .int .i16 0, .int .i8 0], .int .i64 1]) := by
      show tieV _ _ _ _ _ _ _ _ _ = _; unfold tieV; rw [HCO.out]; rfl
    have hoc : okC p ⟨x, y, u, v, rope, eats, likes⟩ = 1 := by unfold okC; rw [hc]; rfl
    go_enter Try.func31, Try.ntmps31
    go_wp2_with (first
      | ((with_reducible refine gate_dst (N := 3) rfl ?_); refine wpl_box (cs := cs) hL rfl rfl rfl ?_; clear hL; intro g3 w3 hL)
      | ((with_reducible refine gate_dst (N := 4) rfl ?_); refine wpl_box (cs := #[.int .i8 x, .int .i8 y, .int .i8 u, .int .i8 v, .int .i16 rope, .int .i16 eats, .int .i8 likes]) hL rfl rfl rfl ?_; clear hL; intro g4 w4 hL)
      | ((with_reducible refine gate_dst (N := 6) rfl ?_); refine wpl_alloc (z := .agg (#[.int .i8 0, .int .i8 0, .int .i8 0, .int .i8 0, .int .i16 0, .int .i16 0, .int .i8 0])) (cs := #[.int .i8 0, .int .i8 0, .int .i8 0, .int .i8 0, .int .i16 0, .int .i16 0, .int .i8 0]) hL rfl rfl (by kernel_rfl) rfl ?_; clear hL; intro g6 w6 hL)
      | (go_at_call 72; (with_reducible refine (l02One_any p cs _ _ _ 0 ⟨x, y, u, v, rope, eats, likes⟩ _ hp (hL.at_ (i := 2) rfl) HG.out (own_cells ⟨x, y, u, v, rope, eats, likes⟩ (hL.at_ (i := 1) rfl))).mono ?_); rintro e w4 ⟨rfl, hb⟩; rw [hoc]; replace hL := hL.ext hb; clear hb)
      | (go_at_call 73; (with_reducible refine (l00In_any r 0 200 _).mono ?_); rintro e w4 ⟨rfl, rfl⟩; rw [hd])
      | ((with_reducible refine gate_store rfl ?_); refine wpl_storeW_0 (vs := #[.int .i8 0, .int .i8 0, .int .i8 0, .int .i8 0, .int .i16 0, .int .i16 0, .int .i8 0]) hL rfl rfl rfl rfl rfl (by kernel_rfl) (by simp [Value.oneCell']) rfl ?_; clear hL; intro w5 hL)
      | ((with_reducible refine post_gate ?_); exact post2 rfl (res_cell (hL.at_ (i := 0) rfl) rfl (by kernel_rfl) rfl (by kernel_rfl)) (res_tmp rfl) rfl ⟨by rw [HZ.out]; rfl, hL.toBelow⟩))
  | true =>
    cases d with
    | false =>
      have HZ : Hid (tieV p x y u v rope eats likes r = .tuple #[.agg #[.int .i8 0, .int .i8 0, .int .i8 0, .int .i8 0, .int .i16 0, .int .i16 0, .int .i8 0], .int .i64 2]) := by
        show tieV _ _ _ _ _ _ _ _ _ = _; unfold tieV; rw [HCO.out]; rfl
      have hoc : okC p ⟨x, y, u, v, rope, eats, likes⟩ = 0 := by unfold okC; rw [hc]; rfl
      go_enter Try.func31, Try.ntmps31
      go_wp2_with (first
        | ((with_reducible refine gate_dst (N := 3) rfl ?_); refine wpl_box (cs := cs) hL rfl rfl rfl ?_; clear hL; intro g3 w3 hL)
        | ((with_reducible refine gate_dst (N := 4) rfl ?_); refine wpl_box (cs := #[.int .i8 x, .int .i8 y, .int .i8 u, .int .i8 v, .int .i16 rope, .int .i16 eats, .int .i8 likes]) hL rfl rfl rfl ?_; clear hL; intro g4 w4 hL)
        | ((with_reducible refine gate_dst (N := 6) rfl ?_); refine wpl_alloc (z := .agg (#[.int .i8 0, .int .i8 0, .int .i8 0, .int .i8 0, .int .i16 0, .int .i16 0, .int .i8 0])) (cs := #[.int .i8 0, .int .i8 0, .int .i8 0, .int .i8 0, .int .i16 0, .int .i16 0, .int .i8 0]) hL rfl rfl (by kernel_rfl) rfl ?_; clear hL; intro g6 w6 hL)
        | (go_at_call 72; (with_reducible refine (l02One_any p cs _ _ _ 0 ⟨x, y, u, v, rope, eats, likes⟩ _ hp (hL.at_ (i := 2) rfl) HG.out (own_cells ⟨x, y, u, v, rope, eats, likes⟩ (hL.at_ (i := 1) rfl))).mono ?_); rintro e w4 ⟨rfl, hb⟩; rw [hoc]; replace hL := hL.ext hb; clear hb)
        | (go_at_call 73; (with_reducible refine (l00In_any r 0 200 _).mono ?_); rintro e w4 ⟨rfl, rfl⟩; rw [hd])
        | ((with_reducible refine gate_store rfl ?_); refine wpl_storeW_0 (vs := #[.int .i8 0, .int .i8 0, .int .i8 0, .int .i8 0, .int .i16 0, .int .i16 0, .int .i8 0]) hL rfl rfl rfl rfl rfl (by kernel_rfl) (by simp [Value.oneCell']) rfl ?_; clear hL; intro w5 hL)
        | ((with_reducible refine post_gate ?_); exact post2 rfl (res_cell (hL.at_ (i := 0) rfl) rfl (by kernel_rfl) rfl (by kernel_rfl)) (res_tmp rfl) rfl ⟨by rw [HZ.out]; rfl, hL.toBelow⟩))
    | true =>
      have HZ : Hid (tieV p x y u v rope eats likes r = .tuple #[.agg #[.int .i8 x, .int .i8 y, .int .i8 x, .int .i8 y, .int .i16 r, .int .i16 eats, .int .i8 likes], .int .i64 0]) := by
        show tieV _ _ _ _ _ _ _ _ _ = _; unfold tieV; rw [HCO.out]; rfl
      have hoc : okC p ⟨x, y, u, v, rope, eats, likes⟩ = 0 := by unfold okC; rw [hc]; rfl
      obtain ⟨r1, r2⟩ := hr.out (by trivial)
      go_enter Try.func31, Try.ntmps31
      go_wp2_with (first
        | ((with_reducible refine gate_dst (N := 3) rfl ?_); refine wpl_box (cs := cs) hL rfl rfl rfl ?_; clear hL; intro g3 w3 hL)
        | ((with_reducible refine gate_dst (N := 4) rfl ?_); refine wpl_box (cs := #[.int .i8 x, .int .i8 y, .int .i8 u, .int .i8 v, .int .i16 rope, .int .i16 eats, .int .i8 likes]) hL rfl rfl rfl ?_; clear hL; intro g4 w4 hL)
        | ((with_reducible refine gate_dst (N := 6) rfl ?_); refine wpl_alloc (z := .agg (#[.int .i8 0, .int .i8 0, .int .i8 0, .int .i8 0, .int .i16 0, .int .i16 0, .int .i8 0])) (cs := #[.int .i8 0, .int .i8 0, .int .i8 0, .int .i8 0, .int .i16 0, .int .i16 0, .int .i8 0]) hL rfl rfl (by kernel_rfl) rfl ?_; clear hL; intro g6 w6 hL)
        | (go_at_call 72; (with_reducible refine (l02One_any p cs _ _ _ 0 ⟨x, y, u, v, rope, eats, likes⟩ _ hp (hL.at_ (i := 2) rfl) HG.out (own_cells ⟨x, y, u, v, rope, eats, likes⟩ (hL.at_ (i := 1) rfl))).mono ?_); rintro e w4 ⟨rfl, hb⟩; rw [hoc]; replace hL := hL.ext hb; clear hb)
        | (go_at_call 73; (with_reducible refine (l00In_any r 0 200 _).mono ?_); rintro e w4 ⟨rfl, rfl⟩; rw [hd])
        | ((with_reducible refine gate_load (ty := 26) rfl ?_); refine wpl_loadN_1 (off := 0) (vs := #[.int .i8 x, .int .i8 y]) hL 2 rfl rfl (by kernel_rfl) (by kernel_rfl) rfl (by simp) rfl ?_)
        | ((with_reducible refine gate_load (ty := 56) rfl ?_); refine wpl_loadW_1 hL rfl rfl (by kernel_rfl) rfl rfl (by kernel_rfl) ?_)
        | ((with_reducible refine gate_store (ty := 26) rfl ?_); refine wpl_storeN_1 (off := 2) (vs := #[.int .i8 x, .int .i8 y]) hL 2 rfl rfl (by kernel_rfl) rfl rfl rfl (by simp [Value.oneCell']) (by simp) ?_; clear hL; intro w5 hL; (try simp only [splice, List.take_zero, List.take_succ_cons, List.drop_succ_cons, List.drop_zero, List.nil_append, List.cons_append, List.append_nil, List.drop_nil, Nat.reduceAdd, List.size_toArray, List.length_cons, List.length_nil, List.take_nil, Nat.zero_add] at hL))
        | ((with_reducible refine gate_store (ty := 56) rfl ?_); refine wpl_storeW_0 (vs := #[.int .i8 x, .int .i8 y, .int .i8 x, .int .i8 y, .int .i16 r, .int .i16 eats, .int .i8 likes]) hL rfl rfl rfl rfl rfl (by kernel_rfl) (by simp [Value.oneCell']) rfl ?_; clear hL; intro w5 hL)
        | ((with_reducible refine gate_store rfl ?_); first | (refine wpl_store1_1 hL rfl rfl (by kernel_rfl) rfl rfl rfl (by first | assumption | (simp; done) | (simp [*]; done)) ?_; clear hL; intro w0_ hL; (try simp only [Act.eval, Array.getD_eq_getD_getElem?, List.getElem?_toArray, List.getElem?_cons_zero, List.getElem?_cons_succ, Option.getD_some, List.setIfInBounds_toArray, List.set_cons_zero, List.set_cons_succ] at hL)))
        | ((with_reducible refine post_gate ?_); exact post2 rfl (res_cell (hL.at_ (i := 0) rfl) rfl (by kernel_rfl) rfl (by kernel_rfl)) (res_tmp rfl) rfl ⟨by rw [HZ.out]; rfl, hL.toBelow⟩))
end Go.Proofs.Ytjflellnbafbaaa
