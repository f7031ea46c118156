/- SquareOf: the program's and the reference's return the same, for all arguments: no condition. -/
import Derived.Test.YtjflellnbafbaaaRows
import Derived.Test.YtjflellnbafbaaaSquare
namespace Go.Proofs.Ytjflellnbafbaaa
set_option linter.unusedVariables false
set_option linter.unusedSimpArgs false
open Go.RowKit Mem

set_option maxRecDepth 100000 in
theorem FnExactSquareOf_walk (s0 : Sp) (s1 : Sp) (w : World) (hs0 : s0.ok) (hs1 : s1.ok) :
    Calls Try.prog 3 #[.agg #[.int .i8 s0.x, .int .i8 s0.y], .agg #[.int .i8 s1.x, .int .i8 s1.y]] w fun e w' => e = .returned (.bool true) ∧ Below w.heap.size w w' := by
  have hL := Own.start w
  obtain ⟨x0, y0⟩ := s0
  obtain ⟨x1, y1⟩ := s1
  go_enter Try.func3, Try.ntmps3
  go_wp2_with (first
    | ((with_reducible refine gate_dst (N := 2) rfl ?_); refine wpl_box (cs := #[.int .i8 x0, .int .i8 y0]) hL rfl rfl rfl ?_; clear hL; intro g2 w2 hL)
    | ((with_reducible refine gate_dst (N := 3) rfl ?_); refine wpl_box (cs := #[.int .i8 x1, .int .i8 y1]) hL rfl rfl rfl ?_; clear hL; intro g3 w3 hL))
  refine' Calm.wp_region_calm_lit [.inl _, .inl (.agg #[.int .i8 x0, .int .i8 y0]), .inl _, .inl (.agg #[.int .i8 x1, .int .i8 y1]), .inl (.int .i64 (sqOf ⟨x0, y0⟩ ⟨x1, y1⟩)), .inl _] (by kernel_rfl) (by kernel_rfl) (by kernel_rfl) ?_
  rotate_left 3
  first | (refine lex_loadW_0 hL rfl rfl (by kernel_rfl) rfl (by first | exact zr_size _ _ | assumption | rfl) (by kernel_rfl) (by rfl) rfl ?_) | (refine lex_loadW_1 hL rfl rfl (by kernel_rfl) rfl (by first | exact zr_size _ _ | assumption | rfl) (by kernel_rfl) (by rfl) rfl ?_) | (refine lex_loadW_2 hL rfl rfl (by kernel_rfl) rfl (by first | exact zr_size _ _ | assumption | rfl) (by kernel_rfl) (by rfl) rfl ?_) | (refine lex_loadW_3 hL rfl rfl (by kernel_rfl) rfl (by first | exact zr_size _ _ | assumption | rfl) (by kernel_rfl) (by rfl) rfl ?_) | (refine lex_loadW_4 hL rfl rfl (by kernel_rfl) rfl (by first | exact zr_size _ _ | assumption | rfl) (by kernel_rfl) (by rfl) rfl ?_) | (refine lex_loadW_5 hL rfl rfl (by kernel_rfl) rfl (by first | exact zr_size _ _ | assumption | rfl) (by kernel_rfl) (by rfl) rfl ?_)
  (try simp only [Act.put, Act.eval, Array.getD_eq_getD_getElem?, List.setIfInBounds_toArray, List.set_cons_zero, List.set_cons_succ, List.getElem?_toArray, List.getElem?_cons_zero, List.getElem?_cons_succ, Option.getD_some, List.getElem_toArray, List.getElem_cons_zero, List.getElem_cons_succ])
  refine lex_call Try.func16 (by kernel_rfl) rfl rfl rfl (by simp only [List.map_toArray, List.map_cons, List.map_nil, Act.eval, Array.getD_eq_getD_getElem?, List.getElem?_toArray, List.getElem?_cons_zero, List.getElem?_cons_succ, Option.getD_some]; try rfl) rfl (fun w' hb => toSpot_any x0 y0 _) ?_
  (try simp only [Act.put, Act.eval, Array.getD_eq_getD_getElem?, List.setIfInBounds_toArray, List.set_cons_zero, List.set_cons_succ, List.getElem?_toArray, List.getElem?_cons_zero, List.getElem?_cons_succ, Option.getD_some, List.getElem_toArray, List.getElem_cons_zero, List.getElem_cons_succ])
  first | (refine lex_loadW_0 hL rfl rfl (by kernel_rfl) rfl (by first | exact zr_size _ _ | assumption | rfl) (by kernel_rfl) (by rfl) rfl ?_) | (refine lex_loadW_1 hL rfl rfl (by kernel_rfl) rfl (by first | exact zr_size _ _ | assumption | rfl) (by kernel_rfl) (by rfl) rfl ?_) | (refine lex_loadW_2 hL rfl rfl (by kernel_rfl) rfl (by first | exact zr_size _ _ | assumption | rfl) (by kernel_rfl) (by rfl) rfl ?_) | (refine lex_loadW_3 hL rfl rfl (by kernel_rfl) rfl (by first | exact zr_size _ _ | assumption | rfl) (by kernel_rfl) (by rfl) rfl ?_) | (refine lex_loadW_4 hL rfl rfl (by kernel_rfl) rfl (by first | exact zr_size _ _ | assumption | rfl) (by kernel_rfl) (by rfl) rfl ?_) | (refine lex_loadW_5 hL rfl rfl (by kernel_rfl) rfl (by first | exact zr_size _ _ | assumption | rfl) (by kernel_rfl) (by rfl) rfl ?_)
  (try simp only [Act.put, Act.eval, Array.getD_eq_getD_getElem?, List.setIfInBounds_toArray, List.set_cons_zero, List.set_cons_succ, List.getElem?_toArray, List.getElem?_cons_zero, List.getElem?_cons_succ, Option.getD_some, List.getElem_toArray, List.getElem_cons_zero, List.getElem_cons_succ])
  refine lex_call Try.func16 (by kernel_rfl) rfl rfl rfl (by simp only [List.map_toArray, List.map_cons, List.map_nil, Act.eval, Array.getD_eq_getD_getElem?, List.getElem?_toArray, List.getElem?_cons_zero, List.getElem?_cons_succ, Option.getD_some]; try rfl) rfl (fun w' hb => toSpot_any x1 y1 _) ?_
  (try simp only [Act.put, Act.eval, Array.getD_eq_getD_getElem?, List.setIfInBounds_toArray, List.set_cons_zero, List.set_cons_succ, List.getElem?_toArray, List.getElem?_cons_zero, List.getElem?_cons_succ, Option.getD_some, List.getElem_toArray, List.getElem_cons_zero, List.getElem_cons_succ])
  refine lex_call Try.func15 (by kernel_rfl) rfl rfl rfl (by simp only [List.map_toArray, List.map_cons, List.map_nil, Act.eval, Array.getD_eq_getD_getElem?, List.getElem?_toArray, List.getElem?_cons_zero, List.getElem?_cons_succ, Option.getD_some]; try rfl) rfl (fun w' hb => specSquareOf_any ⟨x0, y0⟩ ⟨x1, y1⟩ _ hs0 hs1) ?_
  (try simp only [Act.put, Act.eval, Array.getD_eq_getD_getElem?, List.setIfInBounds_toArray, List.set_cons_zero, List.set_cons_succ, List.getElem?_toArray, List.getElem?_cons_zero, List.getElem?_cons_succ, Option.getD_some, List.getElem_toArray, List.getElem_cons_zero, List.getElem_cons_succ])
  refine lex_assign rfl rfl (by simp only [Act.eval, Array.getD_eq_getD_getElem?, List.getElem?_toArray, List.getElem?_cons_zero, List.getElem?_cons_succ, Option.getD_some]; rfl) rfl ?_
  (try simp only [Act.put, Act.eval, Array.getD_eq_getD_getElem?, List.setIfInBounds_toArray, List.set_cons_zero, List.set_cons_succ, List.getElem?_toArray, List.getElem?_cons_zero, List.getElem?_cons_succ, Option.getD_some, List.getElem_toArray, List.getElem_cons_zero, List.getElem_cons_succ])
  intro wc hH
  replace hL := hL.ext hH.below
  clear hH
  go_wp2
  refine' Calm.wp_region_calm_lit [.inl _, .inl (.agg #[.int .i8 x0, .int .i8 y0]), .inl _, .inl (.agg #[.int .i8 x1, .int .i8 y1]), .inl (.int .i64 (sqOf ⟨x0, y0⟩ ⟨x1, y1⟩)), .inl _] (by kernel_rfl) (by kernel_rfl) (by kernel_rfl) ?_
  rotate_left 3
  first | (refine lex_loadW_0 hL rfl rfl (by kernel_rfl) rfl (by first | exact zr_size _ _ | assumption | rfl) (by kernel_rfl) (by rfl) rfl ?_) | (refine lex_loadW_1 hL rfl rfl (by kernel_rfl) rfl (by first | exact zr_size _ _ | assumption | rfl) (by kernel_rfl) (by rfl) rfl ?_) | (refine lex_loadW_2 hL rfl rfl (by kernel_rfl) rfl (by first | exact zr_size _ _ | assumption | rfl) (by kernel_rfl) (by rfl) rfl ?_) | (refine lex_loadW_3 hL rfl rfl (by kernel_rfl) rfl (by first | exact zr_size _ _ | assumption | rfl) (by kernel_rfl) (by rfl) rfl ?_) | (refine lex_loadW_4 hL rfl rfl (by kernel_rfl) rfl (by first | exact zr_size _ _ | assumption | rfl) (by kernel_rfl) (by rfl) rfl ?_) | (refine lex_loadW_5 hL rfl rfl (by kernel_rfl) rfl (by first | exact zr_size _ _ | assumption | rfl) (by kernel_rfl) (by rfl) rfl ?_)
  (try simp only [Act.put, Act.eval, Array.getD_eq_getD_getElem?, List.setIfInBounds_toArray, List.set_cons_zero, List.set_cons_succ, List.getElem?_toArray, List.getElem?_cons_zero, List.getElem?_cons_succ, Option.getD_some, List.getElem_toArray, List.getElem_cons_zero, List.getElem_cons_succ])
  refine lex_call Try.func16 (by kernel_rfl) rfl rfl rfl (by simp only [List.map_toArray, List.map_cons, List.map_nil, Act.eval, Array.getD_eq_getD_getElem?, List.getElem?_toArray, List.getElem?_cons_zero, List.getElem?_cons_succ, Option.getD_some]; try rfl) rfl (fun w' hb => toSpot_any x0 y0 _) ?_
  (try simp only [Act.put, Act.eval, Array.getD_eq_getD_getElem?, List.setIfInBounds_toArray, List.set_cons_zero, List.set_cons_succ, List.getElem?_toArray, List.getElem?_cons_zero, List.getElem?_cons_succ, Option.getD_some, List.getElem_toArray, List.getElem_cons_zero, List.getElem_cons_succ])
  first | (refine lex_loadW_0 hL rfl rfl (by kernel_rfl) rfl (by first | exact zr_size _ _ | assumption | rfl) (by kernel_rfl) (by rfl) rfl ?_) | (refine lex_loadW_1 hL rfl rfl (by kernel_rfl) rfl (by first | exact zr_size _ _ | assumption | rfl) (by kernel_rfl) (by rfl) rfl ?_) | (refine lex_loadW_2 hL rfl rfl (by kernel_rfl) rfl (by first | exact zr_size _ _ | assumption | rfl) (by kernel_rfl) (by rfl) rfl ?_) | (refine lex_loadW_3 hL rfl rfl (by kernel_rfl) rfl (by first | exact zr_size _ _ | assumption | rfl) (by kernel_rfl) (by rfl) rfl ?_) | (refine lex_loadW_4 hL rfl rfl (by kernel_rfl) rfl (by first | exact zr_size _ _ | assumption | rfl) (by kernel_rfl) (by rfl) rfl ?_) | (refine lex_loadW_5 hL rfl rfl (by kernel_rfl) rfl (by first | exact zr_size _ _ | assumption | rfl) (by kernel_rfl) (by rfl) rfl ?_)
  (try simp only [Act.put, Act.eval, Array.getD_eq_getD_getElem?, List.setIfInBounds_toArray, List.set_cons_zero, List.set_cons_succ, List.getElem?_toArray, List.getElem?_cons_zero, List.getElem?_cons_succ, Option.getD_some, List.getElem_toArray, List.getElem_cons_zero, List.getElem_cons_succ])
  refine lex_call Try.func16 (by kernel_rfl) rfl rfl rfl (by simp only [List.map_toArray, List.map_cons, List.map_nil, Act.eval, Array.getD_eq_getD_getElem?, List.getElem?_toArray, List.getElem?_cons_zero, List.getElem?_cons_succ, Option.getD_some]; try rfl) rfl (fun w' hb => toSpot_any x1 y1 _) ?_
  (try simp only [Act.put, Act.eval, Array.getD_eq_getD_getElem?, List.setIfInBounds_toArray, List.set_cons_zero, List.set_cons_succ, List.getElem?_toArray, List.getElem?_cons_zero, List.getElem?_cons_succ, Option.getD_some, List.getElem_toArray, List.getElem_cons_zero, List.getElem_cons_succ])
  refine lex_call Try.func17 (by kernel_rfl) rfl rfl rfl (by simp only [List.map_toArray, List.map_cons, List.map_nil, Act.eval, Array.getD_eq_getD_getElem?, List.getElem?_toArray, List.getElem?_cons_zero, List.getElem?_cons_succ, Option.getD_some]; try rfl) rfl (fun w' hb => implSquareOf_any ⟨x0, y0⟩ ⟨x1, y1⟩ _ hs0 hs1) ?_
  (try simp only [Act.put, Act.eval, Array.getD_eq_getD_getElem?, List.setIfInBounds_toArray, List.set_cons_zero, List.set_cons_succ, List.getElem?_toArray, List.getElem?_cons_zero, List.getElem?_cons_succ, Option.getD_some, List.getElem_toArray, List.getElem_cons_zero, List.getElem_cons_succ])
  refine lex_assign rfl rfl (by simp only [Act.eval, Array.getD_eq_getD_getElem?, List.getElem?_toArray, List.getElem?_cons_zero, List.getElem?_cons_succ, Option.getD_some]; rfl) rfl ?_
  (try simp only [Act.put, Act.eval, Array.getD_eq_getD_getElem?, List.setIfInBounds_toArray, List.set_cons_zero, List.set_cons_succ, List.getElem?_toArray, List.getElem?_cons_zero, List.getElem?_cons_succ, Option.getD_some, List.getElem_toArray, List.getElem_cons_zero, List.getElem_cons_succ])
  intro wc hH
  replace hL := hL.ext hH.below
  clear hH
  go_wp2
  go_ret
  exact ⟨rfl, hL.toBelow⟩
namespace FnExactSquareOfRow
open Go.ChangeShapes Go.WideShapes Go.ChangeAt Go.RowKit
theorem own : ownKnob Try.prog.godebug = none := by kernel_rfl
theorem laidOut : laidOutB Try.prog = true := by kernel_rfl
set_option maxRecDepth 100000 in
set_option maxHeartbeats 1000000 in
theorem lifted (os : Os) (started : os.Started) (H : Type) (enc : TypeId × Value → H) :
    ReturnsInHanded {} Try.checked os 3 .any (Rows.fnExactSquareOfSpec.pre6 enc Try.prog Try.f3 Rows.fnExactSquareOfRow.domain false) (Rows.fnExactSquareOfSpec.post enc Try.prog Try.f3 false true false false) := by
  refine returnsInHanded_of_change (C := Try.checked) own started (by kernel_rfl) Try.func3
    (ChangeSpec.witness6 (enc := enc) (C := Try.checked) false ⟨#[], #[.agg #[.int .i8 0, .int .i8 0], .agg #[.int .i8 0, .int .i8 0]], []⟩ 8 (by kernel_rfl) (by kernel_rfl) (by kernel_rfl) (by kernel_rfl)) ?_
  intro W base args ds gs before hval0 hW hcnd _
  have hval : ∀ (j : Nat) t v, Try.f3.params[j]? = some t → args[j]? = some v → Value.okWide Try.prog W .any base t v := hval0
  have hW' := hW
  obtain ⟨p, q, hA0, hV, rfl, hfz, hnd⟩ := hW
  have hA : DataW.TrodAll enc Try.prog W 0 (fun _ => true) true Try.f3.params.toList args.toList ds p := hA0
  rw [Try.params3] at hA hval
  obtain ⟨v0, vs0, d0, ds0, p0, q0, hargs, rfl, rfl, h0, r0⟩ := trodAll_cons hA
  obtain ⟨v1, vs1, d1, ds1, p1, q1, rfl, rfl, rfl, h1, r1⟩ := trodAll_cons r0
  obtain ⟨rfl, rfl, rfl⟩ := trodAll_nil r1
  obtain rfl : args = #[v0, v1] := by cases args; simp_all
  obtain ⟨rfl, rfl⟩ := trodVars_none hV
  have k0 := h0
  have lt0 : ∀ x ∈ p0, x.block < W.heap.size := by obtain ⟨m, hm⟩ := k0; exact DataW.trod_lt m _ _ _ hm
  have k1 := h1
  have lt1 : ∀ x ∈ p1, x.block < W.heap.size := by obtain ⟨m, hm⟩ := k1; exact DataW.trod_lt m _ _ _ hm
  obtain ⟨c0, rfl, hz0, hf0⟩ := open_flat (n := 5) (ks := spK) (by kernel_rfl) (by kernel_rfl) (by kernel_rfl) (hval 0 _ v0 rfl rfl) h0
  obtain ⟨s0, hc0, hs0⟩ := sp_of_flat (cs := c0.toList) (by rw [Array.length_toList]; exact hz0) (fun j k hj => by rw [Array.getElem?_toList]; exact hf0 j k hj)
  obtain rfl : c0 = #[.int .i8 s0.x, .int .i8 s0.y] := by apply Array.ext'; rw [hc0]; rfl
  obtain ⟨c1, rfl, hz1, hf1⟩ := open_flat (n := 5) (ks := spK) (by kernel_rfl) (by kernel_rfl) (by kernel_rfl) (hval 1 _ v1 rfl rfl) h1
  obtain ⟨s1, hc1, hs1⟩ := sp_of_flat (cs := c1.toList) (by rw [Array.length_toList]; exact hz1) (fun j k hj => by rw [Array.getElem?_toList]; exact hf1 j k hj)
  obtain rfl : c1 = #[.int .i8 s1.x, .int .i8 s1.y] := by apply Array.ext'; rw [hc1]; rfl
  clear hA0 hval0
  refine (FnExactSquareOf_walk s0 s1 W hs0 hs1).mono fun e W' ⟨he, bel⟩ => ?_
  subst he
  exact ⟨_, rfl, _, _, _, [], _, [], hW', trodAll_mk1 (shut_bool Try.underlying4 _), (trodAll_cons_mk (Below.trod laidOut (by kernel_rfl) (of_decide_eq_true (by kernel_rfl)) k0 bel lt0) (trodAll_cons_mk (Below.trod laidOut (by kernel_rfl) (of_decide_eq_true (by kernel_rfl)) k1 bel lt1) trodAll_mk0)), rfl, bel.frame _, fun h => by cases h⟩
theorem over : Rows.fnExactSquareOfRow.holds Try.pinned (OpenSpec.ofChange Rows.fnExactSquareOfSpec) :=
  OpenClaim.holds_of_wide 3 Try.f3 rfl rfl rfl rfl rfl rfl rfl ⟨rfl, rfl, rfl, rfl, rfl⟩ rfl rfl rfl rfl rfl (by kernel_rfl) Try.func3 (by kernel_rfl)
    (of_decide_eq_true (by kernel_rfl)) (by unfold Func.isWrapper; first | (rw [if_pos (by decide +kernel)]; kernel_rfl) | (rw [if_neg (by decide +kernel)]; exact ⟨rfl, rfl⟩))
    (fun os started H enc _ => lifted os started H enc)
end FnExactSquareOfRow
theorem fnExactSquareOf_holds : Rows.FnExactSquareOfSaid := FnExactSquareOfRow.over
#print axioms fnExactSquareOf_holds
end Go.Proofs.Ytjflellnbafbaaa
