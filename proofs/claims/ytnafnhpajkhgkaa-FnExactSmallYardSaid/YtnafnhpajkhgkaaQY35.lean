import Derived.Test.YtnafnhpajkhgkaaQY05
/- The laws' copiers and comparers of spots. Slices of at most 2 to the power 20 elements. -/
namespace Go.Proofs.Ytnafnhpajkhgkaa
set_option linter.unusedVariables false
set_option linter.unusedSimpArgs false
open Go.RowKit Mem

set_option maxRecDepth 100000 in
theorem eqSpot_same (x y : Int) (w : World) :
    Calls Try.prog 33 #[.agg #[.int .i8 x, .int .i8 y], .agg #[.int .i8 x, .int .i8 y]] w fun e w' => e = .returned (.bool true) ∧ Below w.heap.size w w' := by
  have hL := Own.start w
  go_enter Try.func33, Try.ntmps33
  go_wp2_with (first
    | ((with_reducible refine gate_dst (N := 2) rfl ?_); refine wpl_box (cs := #[.int .i8 x, .int .i8 y]) hL rfl rfl rfl ?_; clear hL; intro g2 w2 hL)
    | ((with_reducible refine gate_dst (N := 3) rfl ?_); refine wpl_box (cs := #[.int .i8 x, .int .i8 y]) hL rfl rfl rfl ?_; clear hL; intro g3 w3 hL)
    | ((with_reducible refine gate_load rfl ?_); first | (refine wpl_load_0 hL rfl rfl (by kernel_rfl) rfl (by first | rfl | assumption) ?_) | (refine wpl_load_1 hL rfl rfl (by kernel_rfl) rfl (by first | rfl | assumption) ?_) | (refine wpl_load_2 hL rfl rfl (by kernel_rfl) rfl (by first | rfl | assumption) ?_) | (refine wpl_load_3 hL rfl rfl (by kernel_rfl) rfl (by first | rfl | assumption) ?_) | (refine wpl_load_4 hL rfl rfl (by kernel_rfl) rfl (by first | rfl | assumption) ?_) | (refine wpl_load_5 hL rfl rfl (by kernel_rfl) rfl (by first | rfl | assumption) ?_)))
  go_ret
  exact ⟨rfl, hL.toBelow⟩

set_option maxRecDepth 100000 in
set_option maxHeartbeats 400000 in
theorem eqSpotS_same (v u : Value) (l : List Sp) (w : World) (hl : Sl w 2 v (l.map Sp.cells)) (hr : Sl w 2 u (l.map Sp.cells)) (h1 : l.length ≤ 1048576) :
    Calls Try.prog 12 #[v, u] w fun e w' => e = .returned (.bool true) ∧ Below w.heap.size w w' := by
  have hL := Own.start w
  have HS := Lib.hid hl
  have HR := Lib.hid hr
  obtain ⟨A, cap, rfl, _, _, _⟩ := hl
  obtain ⟨A', cap', rfl, _, _, _⟩ := hr
  rw [List.length_map] at HS HR ⊢
  obtain ⟨N, hN⟩ : ∃ N, l.length = N := ⟨_, rfl⟩
  have HN := Lib.hid hN
  rw [hN] at h1 HS HR ⊢
  clear hN
  go_enter Try.func12, Try.ntmps12
  go_wp2
  go_loopg [5] N (fun n i wr => ∃ (k : Nat), k ≤ N ∧ n = N - k ∧ i = .int .i64 k ∧ Own w.heap.size [] w wr [])
  case atStart => exact ⟨0, by omega, rfl, rfl, hL⟩
  case round =>
    clear hL
    obtain ⟨k, hk, rfl, rfl, hL⟩ := hrel
    by_cases hlt : k < N
    · have HS2 := HS.out.below hL.toBelow
      have HR2 := HR.out.below hL.toBelow
      obtain ⟨A2, cap2, hv2, _, _, hel⟩ := HS2
      obtain ⟨A3, cap3, hv3, _, _, hel3⟩ := HR2
      injection hv2 with hA hn2 hc2
      injection hv3 with hA' hn3 hc3
      obtain ⟨s, hs⟩ : ∃ s, l[k]? = some s := ⟨_, List.getElem?_eq_getElem (by have := HN.out; omega)⟩
      have hmap : (l.map Sp.cells)[k]? = some s.cells := by rw [List.getElem?_map, hs]; rfl
      obtain ⟨hcl, b, off, hA2, hcell⟩ := hel k _ hmap
      obtain ⟨_, b', off', hA3, hcell3⟩ := hel3 k _ hmap
      have HC := Lib.hid hcell
      have HC3 := Lib.hid hcell3
      obtain rfl : A = some ⟨b, off, none⟩ := hA.trans hA2
      obtain rfl : A' = some ⟨b', off', none⟩ := hA'.trans hA3
      clear hel hel3 hmap hs hA hA' hn2 hn3 hc2 hc3 hA2 hA3 hcell hcell3
      have hi1 : (k : Int) < (N : Int) := by omega
      go_wp2
      refine' Calm.wp_region_calm_lit [.inl _, .inl _, .inl _, .inl _, .inl _, .inl _, .inl _, .inl _, .inl (.bool true), .inl _] (by kernel_rfl) (by kernel_rfl) (by kernel_rfl) ?_
      rotate_left 9
      refine lex_move rfl rfl (by simp only [Act.eval, Array.getD_eq_getD_getElem?, List.getElem?_toArray, List.getElem?_cons_zero, List.getElem?_cons_succ, Option.getD_some]; rfl) rfl ?_
      (try simp only [Act.put, Act.eval, Array.getD_eq_getD_getElem?, List.setIfInBounds_toArray, List.set_cons_zero, List.set_cons_succ, List.getElem?_toArray, List.getElem?_cons_zero, List.getElem?_cons_succ, Option.getD_some, List.getElem_toArray, List.getElem_cons_zero, List.getElem_cons_succ])
      refine lex_move rfl rfl (by simp only [Act.eval, Array.getD_eq_getD_getElem?, List.getElem?_toArray, List.getElem?_cons_zero, List.getElem?_cons_succ, Option.getD_some]; rfl) rfl ?_
      (try simp only [Act.put, Act.eval, Array.getD_eq_getD_getElem?, List.setIfInBounds_toArray, List.set_cons_zero, List.set_cons_succ, List.getElem?_toArray, List.getElem?_cons_zero, List.getElem?_cons_succ, Option.getD_some, List.getElem_toArray, List.getElem_cons_zero, List.getElem_cons_succ])
      refine lex_pure rfl rfl (by intro w'; go_simp; (try go_bits); rfl) ?_
      (try simp only [Act.put, Act.eval, Array.getD_eq_getD_getElem?, List.setIfInBounds_toArray, List.set_cons_zero, List.set_cons_succ, List.getElem?_toArray, List.getElem?_cons_zero, List.getElem?_cons_succ, Option.getD_some, List.getElem_toArray, List.getElem_cons_zero, List.getElem_cons_succ])
      refine lex_loadA _ rfl rfl (by kernel_rfl) rfl (c := s.cells) HC.out rfl (by kernel_rfl) (by rfl) rfl ?_
      (try simp only [Act.put, Act.eval, Array.getD_eq_getD_getElem?, List.setIfInBounds_toArray, List.set_cons_zero, List.set_cons_succ, List.getElem?_toArray, List.getElem?_cons_zero, List.getElem?_cons_succ, Option.getD_some, List.getElem_toArray, List.getElem_cons_zero, List.getElem_cons_succ])
      refine lex_move rfl rfl (by simp only [Act.eval, Array.getD_eq_getD_getElem?, List.getElem?_toArray, List.getElem?_cons_zero, List.getElem?_cons_succ, Option.getD_some]; rfl) rfl ?_
      (try simp only [Act.put, Act.eval, Array.getD_eq_getD_getElem?, List.setIfInBounds_toArray, List.set_cons_zero, List.set_cons_succ, List.getElem?_toArray, List.getElem?_cons_zero, List.getElem?_cons_succ, Option.getD_some, List.getElem_toArray, List.getElem_cons_zero, List.getElem_cons_succ])
      refine lex_move rfl rfl (by simp only [Act.eval, Array.getD_eq_getD_getElem?, List.getElem?_toArray, List.getElem?_cons_zero, List.getElem?_cons_succ, Option.getD_some]; rfl) rfl ?_
      (try simp only [Act.put, Act.eval, Array.getD_eq_getD_getElem?, List.setIfInBounds_toArray, List.set_cons_zero, List.set_cons_succ, List.getElem?_toArray, List.getElem?_cons_zero, List.getElem?_cons_succ, Option.getD_some, List.getElem_toArray, List.getElem_cons_zero, List.getElem_cons_succ])
      refine lex_pure rfl rfl (by intro w'; go_simp; (try go_bits); rfl) ?_
      (try simp only [Act.put, Act.eval, Array.getD_eq_getD_getElem?, List.setIfInBounds_toArray, List.set_cons_zero, List.set_cons_succ, List.getElem?_toArray, List.getElem?_cons_zero, List.getElem?_cons_succ, Option.getD_some, List.getElem_toArray, List.getElem_cons_zero, List.getElem_cons_succ])
      refine lex_loadA _ rfl rfl (by kernel_rfl) rfl (c := s.cells) HC3.out rfl (by kernel_rfl) (by rfl) rfl ?_
      (try simp only [Act.put, Act.eval, Array.getD_eq_getD_getElem?, List.setIfInBounds_toArray, List.set_cons_zero, List.set_cons_succ, List.getElem?_toArray, List.getElem?_cons_zero, List.getElem?_cons_succ, Option.getD_some, List.getElem_toArray, List.getElem_cons_zero, List.getElem_cons_succ])
      refine lex_call Try.func33 (by kernel_rfl) rfl rfl rfl (by simp only [List.map_toArray, List.map_cons, List.map_nil, Act.eval, Array.getD_eq_getD_getElem?, List.getElem?_toArray, List.getElem?_cons_zero, List.getElem?_cons_succ, Option.getD_some]; try rfl) rfl (fun w' hb => eqSpot_same s.x s.y _) ?_
      (try simp only [Act.put, Act.eval, Array.getD_eq_getD_getElem?, List.setIfInBounds_toArray, List.set_cons_zero, List.set_cons_succ, List.getElem?_toArray, List.getElem?_cons_zero, List.getElem?_cons_succ, Option.getD_some, List.getElem_toArray, List.getElem_cons_zero, List.getElem_cons_succ])
      refine lex_pure rfl rfl (by intro w'; go_simp; (try go_bits); rfl) ?_
      (try simp only [Act.put, Act.eval, Array.getD_eq_getD_getElem?, List.setIfInBounds_toArray, List.set_cons_zero, List.set_cons_succ, List.getElem?_toArray, List.getElem?_cons_zero, List.getElem?_cons_succ, Option.getD_some, List.getElem_toArray, List.getElem_cons_zero, List.getElem_cons_succ])
      intro wc hH
      replace hL := hL.ext hH.below
      clear hH
      go_wp2
      go_roundg (N - (k + 1))
      case measure => omega
      case rel => exact ⟨k + 1, by omega, rfl, by go_num, hL⟩
    · go_wp2
      go_ret
      exact ⟨rfl, hL.toBelow⟩

end Go.Proofs.Ytnafnhpajkhgkaa
