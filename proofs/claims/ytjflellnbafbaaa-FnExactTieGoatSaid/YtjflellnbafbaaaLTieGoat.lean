/- TieGoat: the program's and the reference's return the same, for all arguments: no condition. -/
import Derived.Test.YtjflellnbafbaaaRows
import Derived.Test.YtjflellnbafbaaaTis
namespace Go.Proofs.Ytjflellnbafbaaa
set_option linter.unusedVariables false
set_option linter.unusedSimpArgs false
open Go.RowKit Mem
attribute [local irreducible] Calm.wpLex

theorem tieV_parts (p : Nat → Int) (x y u v rope eats likes r : Int) : ∃ a1 a2 a3 a4 a5 a6 a7 cc, tieV p x y u v rope eats likes r = .tuple #[.agg #[.int .i8 a1, .int .i8 a2, .int .i8 a3, .int .i8 a4, .int .i16 a5, .int .i16 a6, .int .i8 a7], .int .i64 cc] := by
  by_cases h : tieC p ⟨x, y, u, v, rope, eats, likes⟩ r = 0
  · exact ⟨x, y, x, y, r, eats, likes, _, by unfold tieV; rw [if_pos h]⟩
  · exact ⟨0, 0, 0, 0, 0, 0, 0, _, by unfold tieV; rw [if_neg h]⟩
set_option maxRecDepth 100000 in
set_option maxHeartbeats 2000000 in
theorem FnExactTieGoat_walk (p0 : Nat → Int) (c0 : Array Value) (s1 : Gt) (a2 : Int) (w : World) (hp0 : Pv p0 c0) (hs1 : s1.ok) (ha2 : -9223372036854775808 ≤ a2) (hb2 : a2 ≤ 9223372036854775807) :
    Calls Try.prog 7 #[.agg c0, .agg #[.int .i8 s1.x, .int .i8 s1.y, .int .i8 s1.u, .int .i8 s1.v, .int .i16 s1.rope, .int .i16 s1.eats, .int .i8 s1.likes], .int .i64 a2] w fun e w' => e = .returned (.bool true) ∧ Below w.heap.size w w' := by
  have hL := Own.start w
  have HP := Lib.hid hp0
  have hsz := hp0.size
  clear hp0
  obtain ⟨x, y, u, v, rope, eats, likes⟩ := s1
  have HG := Lib.hid hs1
  clear hs1
  obtain ⟨b1, b2, b3, b4, b5, b6, b7, cc, hT⟩ := tieV_parts p0 x y u v rope eats likes a2
  have HT := Lib.hid hT
  clear hT
  go_enter Try.func7, Try.ntmps7
  go_wp2_with (first
    | ((with_reducible refine gate_dst (N := 3) rfl ?_); refine wpl_box (cs := c0) hL rfl rfl rfl ?_; clear hL; intro g3 w3 hL)
    | ((with_reducible refine gate_dst (N := 4) rfl ?_); refine wpl_box (cs := #[.int .i8 x, .int .i8 y, .int .i8 u, .int .i8 v, .int .i16 rope, .int .i16 eats, .int .i8 likes]) hL rfl rfl rfl ?_; clear hL; intro g4 w4 hL))
  refine' Calm.wp_region_calm_lit [(Sum.inl _ : Calm.Plan), (Sum.inl (.agg c0) : Calm.Plan), (Sum.inl _ : Calm.Plan), (Sum.inl (.agg #[.int .i8 x, .int .i8 y, .int .i8 u, .int .i8 v, .int .i16 rope, .int .i16 eats, .int .i8 likes]) : Calm.Plan), (Sum.inl _ : Calm.Plan), (Sum.inl (.tuple #[.agg #[.int .i8 b1, .int .i8 b2, .int .i8 b3, .int .i8 b4, .int .i16 b5, .int .i16 b6, .int .i8 b7], .int .i64 cc]) : Calm.Plan), (Sum.inl _ : Calm.Plan), (Sum.inl _ : Calm.Plan), (Sum.inl _ : Calm.Plan), (Sum.inr (false, 56, #[.int .i8 0, .int .i8 0, .int .i8 0, .int .i8 0, .int .i16 0, .int .i16 0, .int .i8 0]) : Calm.Plan), (Sum.inr (true, 56, #[.int .i8 b1, .int .i8 b2, .int .i8 b3, .int .i8 b4, .int .i16 b5, .int .i16 b6, .int .i8 b7]) : Calm.Plan), (Sum.inl _ : Calm.Plan)] (by kernel_rfl) (by kernel_rfl) (by kernel_rfl) ?calm_main0
  case' calm_main0 => skip
  first | (refine lex_loadW_0 hL rfl rfl (by kernel_rfl) rfl (by first | exact zr_size _ _ | assumption | rfl) (by kernel_rfl) (by rfl) rfl ?_) | (refine lex_loadW_1 hL rfl rfl (by kernel_rfl) rfl (by first | exact zr_size _ _ | assumption | rfl) (by kernel_rfl) (by rfl) rfl ?_) | (refine lex_loadW_2 hL rfl rfl (by kernel_rfl) rfl (by first | exact zr_size _ _ | assumption | rfl) (by kernel_rfl) (by rfl) rfl ?_) | (refine lex_loadW_3 hL rfl rfl (by kernel_rfl) rfl (by first | exact zr_size _ _ | assumption | rfl) (by kernel_rfl) (by rfl) rfl ?_) | (refine lex_loadW_4 hL rfl rfl (by kernel_rfl) rfl (by first | exact zr_size _ _ | assumption | rfl) (by kernel_rfl) (by rfl) rfl ?_) | (refine lex_loadW_5 hL rfl rfl (by kernel_rfl) rfl (by first | exact zr_size _ _ | assumption | rfl) (by kernel_rfl) (by rfl) rfl ?_)
  (try simp only [Act.put, Act.eval, Array.getD_eq_getD_getElem?, List.setIfInBounds_toArray, List.set_cons_zero, List.set_cons_succ, List.getElem?_toArray, List.getElem?_cons_zero, List.getElem?_cons_succ, Option.getD_some, List.getElem_toArray, List.getElem_cons_zero, List.getElem_cons_succ])
  refine lex_call Try.func24 (by kernel_rfl) rfl rfl rfl (by simp only [List.map_toArray, List.map_cons, List.map_nil, Act.eval, Array.getD_eq_getD_getElem?, List.getElem?_toArray, List.getElem?_cons_zero, List.getElem?_cons_succ, Option.getD_some]; try rfl) rfl (fun w' hb => toPasture_any p0 c0 _ HP.out) ?_
  (try simp only [Act.put, Act.eval, Array.getD_eq_getD_getElem?, List.setIfInBounds_toArray, List.set_cons_zero, List.set_cons_succ, List.getElem?_toArray, List.getElem?_cons_zero, List.getElem?_cons_succ, Option.getD_some, List.getElem_toArray, List.getElem_cons_zero, List.getElem_cons_succ])
  first | (refine lex_loadW_0 hL rfl rfl (by kernel_rfl) rfl (by first | exact zr_size _ _ | assumption | rfl) (by kernel_rfl) (by rfl) rfl ?_) | (refine lex_loadW_1 hL rfl rfl (by kernel_rfl) rfl (by first | exact zr_size _ _ | assumption | rfl) (by kernel_rfl) (by rfl) rfl ?_) | (refine lex_loadW_2 hL rfl rfl (by kernel_rfl) rfl (by first | exact zr_size _ _ | assumption | rfl) (by kernel_rfl) (by rfl) rfl ?_) | (refine lex_loadW_3 hL rfl rfl (by kernel_rfl) rfl (by first | exact zr_size _ _ | assumption | rfl) (by kernel_rfl) (by rfl) rfl ?_) | (refine lex_loadW_4 hL rfl rfl (by kernel_rfl) rfl (by first | exact zr_size _ _ | assumption | rfl) (by kernel_rfl) (by rfl) rfl ?_) | (refine lex_loadW_5 hL rfl rfl (by kernel_rfl) rfl (by first | exact zr_size _ _ | assumption | rfl) (by kernel_rfl) (by rfl) rfl ?_)
  (try simp only [Act.put, Act.eval, Array.getD_eq_getD_getElem?, List.setIfInBounds_toArray, List.set_cons_zero, List.set_cons_succ, List.getElem?_toArray, List.getElem?_cons_zero, List.getElem?_cons_succ, Option.getD_some, List.getElem_toArray, List.getElem_cons_zero, List.getElem_cons_succ])
  refine lex_call Try.func32 (by kernel_rfl) rfl rfl rfl (by simp only [List.map_toArray, List.map_cons, List.map_nil, Act.eval, Array.getD_eq_getD_getElem?, List.getElem?_toArray, List.getElem?_cons_zero, List.getElem?_cons_succ, Option.getD_some]; try rfl) rfl (fun w' hb => toGoat_any x y u v rope eats likes _) ?_
  (try simp only [Act.put, Act.eval, Array.getD_eq_getD_getElem?, List.setIfInBounds_toArray, List.set_cons_zero, List.set_cons_succ, List.getElem?_toArray, List.getElem?_cons_zero, List.getElem?_cons_succ, Option.getD_some, List.getElem_toArray, List.getElem_cons_zero, List.getElem_cons_succ])
  refine lex_move rfl rfl (by simp only [Act.eval, Array.getD_eq_getD_getElem?, List.getElem?_toArray, List.getElem?_cons_zero, List.getElem?_cons_succ, Option.getD_some]; rfl) rfl ?_
  (try simp only [Act.put, Act.eval, Array.getD_eq_getD_getElem?, List.setIfInBounds_toArray, List.set_cons_zero, List.set_cons_succ, List.getElem?_toArray, List.getElem?_cons_zero, List.getElem?_cons_succ, Option.getD_some, List.getElem_toArray, List.getElem_cons_zero, List.getElem_cons_succ])
  refine lex_call Try.func31 (by kernel_rfl) rfl rfl rfl (by simp only [List.map_toArray, List.map_cons, List.map_nil, Act.eval, Array.getD_eq_getD_getElem?, List.getElem?_toArray, List.getElem?_cons_zero, List.getElem?_cons_succ, Option.getD_some]; try rfl) rfl (fun w' hb => to_same (specTieGoat_any p0 c0 x y u v rope eats likes a2 _ HP.out HG.out) HT.out) ?_
  (try simp only [Act.put, Act.eval, Array.getD_eq_getD_getElem?, List.setIfInBounds_toArray, List.set_cons_zero, List.set_cons_succ, List.getElem?_toArray, List.getElem?_cons_zero, List.getElem?_cons_succ, Option.getD_some, List.getElem_toArray, List.getElem_cons_zero, List.getElem_cons_succ])
  refine lex_move rfl rfl (by simp only [Act.eval, Array.getD_eq_getD_getElem?, List.getElem?_toArray, List.getElem?_cons_zero, List.getElem?_cons_succ, Option.getD_some]; rfl) rfl ?_
  (try simp only [Act.put, Act.eval, Array.getD_eq_getD_getElem?, List.setIfInBounds_toArray, List.set_cons_zero, List.set_cons_succ, List.getElem?_toArray, List.getElem?_cons_zero, List.getElem?_cons_succ, Option.getD_some, List.getElem_toArray, List.getElem_cons_zero, List.getElem_cons_succ])
  refine lex_pure rfl rfl (by intro w'; go_simp; (try go_bits); rfl) ?_
  (try simp only [Act.put, Act.eval, Array.getD_eq_getD_getElem?, List.setIfInBounds_toArray, List.set_cons_zero, List.set_cons_succ, List.getElem?_toArray, List.getElem?_cons_zero, List.getElem?_cons_succ, Option.getD_some, List.getElem_toArray, List.getElem_cons_zero, List.getElem_cons_succ])
  refine lex_pure rfl rfl (by intro w'; go_simp; (try go_bits); rfl) ?_
  (try simp only [Act.put, Act.eval, Array.getD_eq_getD_getElem?, List.setIfInBounds_toArray, List.set_cons_zero, List.set_cons_succ, List.getElem?_toArray, List.getElem?_cons_zero, List.getElem?_cons_succ, Option.getD_some, List.getElem_toArray, List.getElem_cons_zero, List.getElem_cons_succ])
  refine lex_alloc (z := .agg (#[.int .i8 0, .int .i8 0, .int .i8 0, .int .i8 0, .int .i16 0, .int .i16 0, .int .i8 0])) (cs := #[.int .i8 0, .int .i8 0, .int .i8 0, .int .i8 0, .int .i16 0, .int .i16 0, .int .i8 0]) rfl rfl (by kernel_rfl) rfl rfl ?_
  intro g7 hg7 he7
  (try simp only [Act.put, Act.eval, Array.getD_eq_getD_getElem?, List.setIfInBounds_toArray, List.set_cons_zero, List.set_cons_succ, List.getElem?_toArray, List.getElem?_cons_zero, List.getElem?_cons_succ, Option.getD_some, List.getElem_toArray, List.getElem_cons_zero, List.getElem_cons_succ])
  refine lex_store (cs := #[.int .i8 b1, .int .i8 b2, .int .i8 b3, .int .i8 b4, .int .i16 b5, .int .i16 b6, .int .i8 b7]) rfl rfl rfl rfl rfl (by kernel_rfl) (by simp [Value.oneCell']) (Calm.upd_same _ _ _) rfl rfl ?_
  (try simp only [Act.put, Act.eval, Array.getD_eq_getD_getElem?, List.setIfInBounds_toArray, List.set_cons_zero, List.set_cons_succ, List.getElem?_toArray, List.getElem?_cons_zero, List.getElem?_cons_succ, Option.getD_some, List.getElem_toArray, List.getElem_cons_zero, List.getElem_cons_succ])
  refine lex_assign rfl rfl (by simp only [Act.eval, Array.getD_eq_getD_getElem?, List.getElem?_toArray, List.getElem?_cons_zero, List.getElem?_cons_succ, Option.getD_some]; rfl) rfl ?_
  (try simp only [Act.put, Act.eval, Array.getD_eq_getD_getElem?, List.setIfInBounds_toArray, List.set_cons_zero, List.set_cons_succ, List.getElem?_toArray, List.getElem?_cons_zero, List.getElem?_cons_succ, Option.getD_some, List.getElem_toArray, List.getElem_cons_zero, List.getElem_cons_succ])
  refine lex_nil ?_
  intro wc hH
  replace hL := hL.add hH.below (hH.has g7 _ _ (Calm.upd_same _ _ _)).1 (hH.has g7 _ _ (Calm.upd_same _ _ _)).2
  clear hH
  go_wp2
  refine' Calm.wp_region_calm_lit [(Sum.inl _ : Calm.Plan), (Sum.inl (.agg c0) : Calm.Plan), (Sum.inl _ : Calm.Plan), (Sum.inl (.agg #[.int .i8 x, .int .i8 y, .int .i8 u, .int .i8 v, .int .i16 rope, .int .i16 eats, .int .i8 likes]) : Calm.Plan), (Sum.inl _ : Calm.Plan), (Sum.inl (.tuple #[.agg #[.int .i8 b1, .int .i8 b2, .int .i8 b3, .int .i8 b4, .int .i16 b5, .int .i16 b6, .int .i8 b7], .int .i64 cc]) : Calm.Plan), (Sum.inl _ : Calm.Plan), (Sum.inl _ : Calm.Plan), (Sum.inl _ : Calm.Plan), (Sum.inr (false, 56, #[.int .i8 0, .int .i8 0, .int .i8 0, .int .i8 0, .int .i16 0, .int .i16 0, .int .i8 0]) : Calm.Plan), (Sum.inr (true, 56, #[.int .i8 b1, .int .i8 b2, .int .i8 b3, .int .i8 b4, .int .i16 b5, .int .i16 b6, .int .i8 b7]) : Calm.Plan), (Sum.inl _ : Calm.Plan)] (by kernel_rfl) (by kernel_rfl) (by kernel_rfl) ?calm_main1
  case' calm_main1 => skip
  first | (refine lex_loadW_0 hL rfl rfl (by kernel_rfl) rfl (by first | exact zr_size _ _ | assumption | rfl) (by kernel_rfl) (by rfl) rfl ?_) | (refine lex_loadW_1 hL rfl rfl (by kernel_rfl) rfl (by first | exact zr_size _ _ | assumption | rfl) (by kernel_rfl) (by rfl) rfl ?_) | (refine lex_loadW_2 hL rfl rfl (by kernel_rfl) rfl (by first | exact zr_size _ _ | assumption | rfl) (by kernel_rfl) (by rfl) rfl ?_) | (refine lex_loadW_3 hL rfl rfl (by kernel_rfl) rfl (by first | exact zr_size _ _ | assumption | rfl) (by kernel_rfl) (by rfl) rfl ?_) | (refine lex_loadW_4 hL rfl rfl (by kernel_rfl) rfl (by first | exact zr_size _ _ | assumption | rfl) (by kernel_rfl) (by rfl) rfl ?_) | (refine lex_loadW_5 hL rfl rfl (by kernel_rfl) rfl (by first | exact zr_size _ _ | assumption | rfl) (by kernel_rfl) (by rfl) rfl ?_)
  (try simp only [Act.put, Act.eval, Array.getD_eq_getD_getElem?, List.setIfInBounds_toArray, List.set_cons_zero, List.set_cons_succ, List.getElem?_toArray, List.getElem?_cons_zero, List.getElem?_cons_succ, Option.getD_some, List.getElem_toArray, List.getElem_cons_zero, List.getElem_cons_succ])
  refine lex_call Try.func24 (by kernel_rfl) rfl rfl rfl (by simp only [List.map_toArray, List.map_cons, List.map_nil, Act.eval, Array.getD_eq_getD_getElem?, List.getElem?_toArray, List.getElem?_cons_zero, List.getElem?_cons_succ, Option.getD_some]; try rfl) rfl (fun w' hb => toPasture_any p0 c0 _ HP.out) ?_
  (try simp only [Act.put, Act.eval, Array.getD_eq_getD_getElem?, List.setIfInBounds_toArray, List.set_cons_zero, List.set_cons_succ, List.getElem?_toArray, List.getElem?_cons_zero, List.getElem?_cons_succ, Option.getD_some, List.getElem_toArray, List.getElem_cons_zero, List.getElem_cons_succ])
  first | (refine lex_loadW_0 hL rfl rfl (by kernel_rfl) rfl (by first | exact zr_size _ _ | assumption | rfl) (by kernel_rfl) (by rfl) rfl ?_) | (refine lex_loadW_1 hL rfl rfl (by kernel_rfl) rfl (by first | exact zr_size _ _ | assumption | rfl) (by kernel_rfl) (by rfl) rfl ?_) | (refine lex_loadW_2 hL rfl rfl (by kernel_rfl) rfl (by first | exact zr_size _ _ | assumption | rfl) (by kernel_rfl) (by rfl) rfl ?_) | (refine lex_loadW_3 hL rfl rfl (by kernel_rfl) rfl (by first | exact zr_size _ _ | assumption | rfl) (by kernel_rfl) (by rfl) rfl ?_) | (refine lex_loadW_4 hL rfl rfl (by kernel_rfl) rfl (by first | exact zr_size _ _ | assumption | rfl) (by kernel_rfl) (by rfl) rfl ?_) | (refine lex_loadW_5 hL rfl rfl (by kernel_rfl) rfl (by first | exact zr_size _ _ | assumption | rfl) (by kernel_rfl) (by rfl) rfl ?_)
  (try simp only [Act.put, Act.eval, Array.getD_eq_getD_getElem?, List.setIfInBounds_toArray, List.set_cons_zero, List.set_cons_succ, List.getElem?_toArray, List.getElem?_cons_zero, List.getElem?_cons_succ, Option.getD_some, List.getElem_toArray, List.getElem_cons_zero, List.getElem_cons_succ])
  refine lex_call Try.func32 (by kernel_rfl) rfl rfl rfl (by simp only [List.map_toArray, List.map_cons, List.map_nil, Act.eval, Array.getD_eq_getD_getElem?, List.getElem?_toArray, List.getElem?_cons_zero, List.getElem?_cons_succ, Option.getD_some]; try rfl) rfl (fun w' hb => toGoat_any x y u v rope eats likes _) ?_
  (try simp only [Act.put, Act.eval, Array.getD_eq_getD_getElem?, List.setIfInBounds_toArray, List.set_cons_zero, List.set_cons_succ, List.getElem?_toArray, List.getElem?_cons_zero, List.getElem?_cons_succ, Option.getD_some, List.getElem_toArray, List.getElem_cons_zero, List.getElem_cons_succ])
  refine lex_move rfl rfl (by simp only [Act.eval, Array.getD_eq_getD_getElem?, List.getElem?_toArray, List.getElem?_cons_zero, List.getElem?_cons_succ, Option.getD_some]; rfl) rfl ?_
  (try simp only [Act.put, Act.eval, Array.getD_eq_getD_getElem?, List.setIfInBounds_toArray, List.set_cons_zero, List.set_cons_succ, List.getElem?_toArray, List.getElem?_cons_zero, List.getElem?_cons_succ, Option.getD_some, List.getElem_toArray, List.getElem_cons_zero, List.getElem_cons_succ])
  refine lex_call Try.func33 (by kernel_rfl) rfl rfl rfl (by simp only [List.map_toArray, List.map_cons, List.map_nil, Act.eval, Array.getD_eq_getD_getElem?, List.getElem?_toArray, List.getElem?_cons_zero, List.getElem?_cons_succ, Option.getD_some]; try rfl) rfl (fun w' hb => to_same (implTieGoat_any p0 c0 x y u v rope eats likes a2 _ HP.out HG.out) HT.out) ?_
  (try simp only [Act.put, Act.eval, Array.getD_eq_getD_getElem?, List.setIfInBounds_toArray, List.set_cons_zero, List.set_cons_succ, List.getElem?_toArray, List.getElem?_cons_zero, List.getElem?_cons_succ, Option.getD_some, List.getElem_toArray, List.getElem_cons_zero, List.getElem_cons_succ])
  refine lex_move rfl rfl (by simp only [Act.eval, Array.getD_eq_getD_getElem?, List.getElem?_toArray, List.getElem?_cons_zero, List.getElem?_cons_succ, Option.getD_some]; rfl) rfl ?_
  (try simp only [Act.put, Act.eval, Array.getD_eq_getD_getElem?, List.setIfInBounds_toArray, List.set_cons_zero, List.set_cons_succ, List.getElem?_toArray, List.getElem?_cons_zero, List.getElem?_cons_succ, Option.getD_some, List.getElem_toArray, List.getElem_cons_zero, List.getElem_cons_succ])
  refine lex_pure rfl rfl (by intro w'; go_simp; (try go_bits); rfl) ?_
  (try simp only [Act.put, Act.eval, Array.getD_eq_getD_getElem?, List.setIfInBounds_toArray, List.set_cons_zero, List.set_cons_succ, List.getElem?_toArray, List.getElem?_cons_zero, List.getElem?_cons_succ, Option.getD_some, List.getElem_toArray, List.getElem_cons_zero, List.getElem_cons_succ])
  refine lex_pure rfl rfl (by intro w'; go_simp; (try go_bits); rfl) ?_
  (try simp only [Act.put, Act.eval, Array.getD_eq_getD_getElem?, List.setIfInBounds_toArray, List.set_cons_zero, List.set_cons_succ, List.getElem?_toArray, List.getElem?_cons_zero, List.getElem?_cons_succ, Option.getD_some, List.getElem_toArray, List.getElem_cons_zero, List.getElem_cons_succ])
  refine lex_alloc (z := .agg (#[.int .i8 0, .int .i8 0, .int .i8 0, .int .i8 0, .int .i16 0, .int .i16 0, .int .i8 0])) (cs := #[.int .i8 0, .int .i8 0, .int .i8 0, .int .i8 0, .int .i16 0, .int .i16 0, .int .i8 0]) rfl rfl (by kernel_rfl) rfl rfl ?_
  intro g9 hg9 he9
  (try simp only [Act.put, Act.eval, Array.getD_eq_getD_getElem?, List.setIfInBounds_toArray, List.set_cons_zero, List.set_cons_succ, List.getElem?_toArray, List.getElem?_cons_zero, List.getElem?_cons_succ, Option.getD_some, List.getElem_toArray, List.getElem_cons_zero, List.getElem_cons_succ])
  refine lex_store (cs := #[.int .i8 b1, .int .i8 b2, .int .i8 b3, .int .i8 b4, .int .i16 b5, .int .i16 b6, .int .i8 b7]) rfl rfl rfl rfl rfl (by kernel_rfl) (by simp [Value.oneCell']) (Calm.upd_same _ _ _) rfl rfl ?_
  (try simp only [Act.put, Act.eval, Array.getD_eq_getD_getElem?, List.setIfInBounds_toArray, List.set_cons_zero, List.set_cons_succ, List.getElem?_toArray, List.getElem?_cons_zero, List.getElem?_cons_succ, Option.getD_some, List.getElem_toArray, List.getElem_cons_zero, List.getElem_cons_succ])
  refine lex_assign rfl rfl (by simp only [Act.eval, Array.getD_eq_getD_getElem?, List.getElem?_toArray, List.getElem?_cons_zero, List.getElem?_cons_succ, Option.getD_some]; rfl) rfl ?_
  (try simp only [Act.put, Act.eval, Array.getD_eq_getD_getElem?, List.setIfInBounds_toArray, List.set_cons_zero, List.set_cons_succ, List.getElem?_toArray, List.getElem?_cons_zero, List.getElem?_cons_succ, Option.getD_some, List.getElem_toArray, List.getElem_cons_zero, List.getElem_cons_succ])
  refine lex_nil ?_
  intro wc hH
  replace hL := hL.add hH.below (hH.has g9 _ _ (Calm.upd_same _ _ _)).1 (hH.has g9 _ _ (Calm.upd_same _ _ _)).2
  clear hH
  go_wp2_with (first
    | ((with_reducible refine gate_load rfl ?_); first | (refine wpl_loadW_0 hL rfl rfl (by kernel_rfl) rfl rfl (by kernel_rfl) ?_) | (refine wpl_loadW_1 hL rfl rfl (by kernel_rfl) rfl rfl (by kernel_rfl) ?_))
    | (go_at_call 34; (with_reducible refine (eqGoat_same b1 b2 b3 b4 b5 b6 b7 _).mono ?_); rintro e w4 ⟨rfl, hb⟩; replace hL := hL.ext hb; clear hb))
  go_ret
  exact ⟨rfl, hL.toBelow⟩
namespace FnExactTieGoatRow
open Go.ChangeShapes Go.WideShapes Go.ChangeAt Go.RowKit
theorem own : ownKnob Try.prog.godebug = none := by kernel_rfl
theorem laidOut : laidOutB Try.prog = true := by kernel_rfl
set_option maxRecDepth 100000 in
set_option maxHeartbeats 1000000 in
theorem lifted (os : Os) (started : os.Started) (H : Type) (enc : TypeId × Value → H) :
    ReturnsInHanded {} Try.checked os 7 .any (Rows.fnExactTieGoatSpec.pre6 enc Try.prog Try.f7 Rows.fnExactTieGoatRow.domain false) (Rows.fnExactTieGoatSpec.post enc Try.prog Try.f7 false true false false) := by
  refine returnsInHanded_of_change (C := Try.checked) own started (by kernel_rfl) Try.func7
    (ChangeSpec.witness6 (enc := enc) (C := Try.checked) false ⟨#[], #[.agg zP, .agg #[.int .i8 0, .int .i8 0, .int .i8 0, .int .i8 0, .int .i16 0, .int .i16 0, .int .i8 0], .int .i64 0], []⟩ 8 (by kernel_rfl) (by kernel_rfl) (by kernel_rfl) (by kernel_rfl)) ?_
  intro W base args ds gs before hval0 hW hcnd _
  have hval : ∀ (j : Nat) t v, Try.f7.params[j]? = some t → args[j]? = some v → Value.okWide Try.prog W .any base t v := hval0
  have hW' := hW
  obtain ⟨p, q, hA0, hV, rfl, hfz, hnd⟩ := hW
  have hA : DataW.TrodAll enc Try.prog W 0 (fun _ => true) true Try.f7.params.toList args.toList ds p := hA0
  rw [Try.params7] at hA hval
  obtain ⟨v0, vs0, d0, ds0, p0, q0, hargs, rfl, rfl, h0, r0⟩ := trodAll_cons hA
  obtain ⟨v1, vs1, d1, ds1, p1, q1, rfl, rfl, rfl, h1, r1⟩ := trodAll_cons r0
  obtain ⟨v2, vs2, d2, ds2, p2, q2, rfl, rfl, rfl, h2, r2⟩ := trodAll_cons r1
  obtain ⟨rfl, rfl, rfl⟩ := trodAll_nil r2
  obtain rfl : args = #[v0, v1, v2] := by cases args; simp_all
  obtain ⟨rfl, rfl⟩ := trodVars_none hV
  have k0 := h0
  have lt0 : ∀ x ∈ p0, x.block < W.heap.size := by obtain ⟨m, hm⟩ := k0; exact DataW.trod_lt m _ _ _ hm
  have k1 := h1
  have lt1 : ∀ x ∈ p1, x.block < W.heap.size := by obtain ⟨m, hm⟩ := k1; exact DataW.trod_lt m _ _ _ hm
  have k2 := h2
  have lt2 : ∀ x ∈ p2, x.block < W.heap.size := by obtain ⟨m, hm⟩ := k2; exact DataW.trod_lt m _ _ _ hm
  obtain ⟨c0, rfl, hs0, hf0⟩ := open_flat (n := 5) (ks := pasK) (by kernel_rfl) (by kernel_rfl) (by kernel_rfl) (hval 0 _ v0 rfl rfl) h0
  obtain ⟨p0', hp0⟩ := pv_of_flat hs0 hf0
  obtain ⟨c1, rfl, hz1, hf1⟩ := open_flat (n := 5) (ks := gtK) (by kernel_rfl) (by kernel_rfl) (by kernel_rfl) (hval 1 _ v1 rfl rfl) h1
  obtain ⟨s1, hc1, hs1⟩ := gt_of_flat (cs := c1.toList) (by rw [Array.length_toList]; exact hz1) (fun j k hj => by rw [Array.getElem?_toList]; exact hf1 j k hj)
  obtain rfl : c1 = #[.int .i8 s1.x, .int .i8 s1.y, .int .i8 s1.u, .int .i8 s1.v, .int .i16 s1.rope, .int .i16 s1.eats, .int .i8 s1.likes] := by apply Array.ext'; rw [hc1]; rfl
  obtain ⟨a2, rfl, rfl, rfl, wf2⟩ := open_int Try.underlying2 (hval 2 _ v2 rfl rfl) h2
  clear hA0 hval0
  refine (FnExactTieGoat_walk p0' c0 s1 a2 W hp0 hs1 (wf_i64 wf2).1 (wf_i64 wf2).2).mono fun e W' ⟨he, bel⟩ => ?_
  subst he
  exact ⟨_, rfl, _, _, _, [], _, [], hW', trodAll_mk1 (shut_bool Try.underlying4 _), (trodAll_cons_mk (Below.trod laidOut (by kernel_rfl) (of_decide_eq_true (by kernel_rfl)) k0 bel lt0) (trodAll_cons_mk (Below.trod laidOut (by kernel_rfl) (of_decide_eq_true (by kernel_rfl)) k1 bel lt1) (trodAll_cons_mk (Below.trod laidOut (by kernel_rfl) (of_decide_eq_true (by kernel_rfl)) k2 bel lt2) trodAll_mk0))), rfl, bel.frame _, fun h => by cases h⟩
theorem over : Rows.fnExactTieGoatRow.holds Try.pinned (OpenSpec.ofChange Rows.fnExactTieGoatSpec) :=
  OpenClaim.holds_of_wide 7 Try.f7 rfl rfl rfl rfl rfl rfl rfl ⟨rfl, rfl, rfl, rfl, rfl⟩ rfl rfl rfl rfl rfl (by kernel_rfl) Try.func7 (by kernel_rfl)
    (of_decide_eq_true (by kernel_rfl)) (by unfold Func.isWrapper; first | (rw [if_pos (by decide +kernel)]; kernel_rfl) | (rw [if_neg (by decide +kernel)]; exact ⟨rfl, rfl⟩))
    (fun os started H enc _ => lifted os started H enc)
end FnExactTieGoatRow
theorem fnExactTieGoat_holds : Rows.FnExactTieGoatSaid := FnExactTieGoatRow.over
#print axioms fnExactTieGoat_holds
end Go.Proofs.Ytjflellnbafbaaa
