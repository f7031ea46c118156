import Derived.Test.YtpifngdmlmfnhaaQC04
/- Spots are handed on as they are; both SquareOf return the square of the distance. No condition. -/
namespace Go.Proofs.Ytpifngdmlmfnhaa
set_option linter.unusedVariables false
set_option linter.unusedSimpArgs false
open Go.RowKit Mem

def sqOf (a b : Sp) : Int := (a.x - b.x) * (a.x - b.x) + (a.y - b.y) * (a.y - b.y)

set_option maxRecDepth 100000 in
theorem toSpot_any (x y : Int) (w : World) :
    Calls Try.prog 126 #[.agg #[.int .i8 x, .int .i8 y]] w fun e w' => e = .returned (.agg #[.int .i8 x, .int .i8 y]) ∧ Below w.heap.size w w' := by
  have hL := Own.start w
  go_enter Try.func126, Try.ntmps126
  go_wp2_with (first
    | ((with_reducible refine gate_dst (N := 1) rfl ?_); refine wpl_box (cs := #[.int .i8 x, .int .i8 y]) hL rfl rfl rfl ?_; clear hL; intro g1 w1 hL)
    | ((with_reducible refine gate_dst (N := 2) rfl ?_); refine wpl_alloc (z := .agg (#[.int .i8 0, .int .i8 0])) (cs := #[.int .i8 0, .int .i8 0]) hL rfl rfl (by kernel_rfl) rfl ?_; clear hL; intro g2 w2 hL)
    | ((with_reducible refine gate_dst (N := 3) rfl ?_); refine wpl_alloc (z := .agg (#[.int .i8 0, .int .i8 0])) (cs := #[.int .i8 0, .int .i8 0]) hL rfl rfl (by kernel_rfl) rfl ?_; clear hL; intro g3 w3 hL)
    | ((with_reducible refine gate_load rfl ?_); first | (refine wpl_load_2 hL rfl rfl (by kernel_rfl) rfl (by first | rfl | assumption) ?_))
    | ((with_reducible refine gate_load (ty := 88) rfl ?_); refine wpl_loadW_0 hL rfl rfl (by kernel_rfl) rfl rfl (by kernel_rfl) ?_)
    | ((with_reducible refine gate_store rfl ?_); first | (refine wpl_store1_0 hL rfl rfl (by kernel_rfl) rfl rfl rfl (by first | assumption | (simp; done) | (simp [*]; done)) ?_; clear hL; intro w0_ hL; (try simp only [Act.eval, Array.getD_eq_getD_getElem?, List.getElem?_toArray, List.getElem?_cons_zero, List.getElem?_cons_succ, Option.getD_some, List.setIfInBounds_toArray, List.set_cons_zero, List.set_cons_succ] at hL)))
    | ((with_reducible refine gate_store (ty := 88) rfl ?_); refine wpl_storeW_1 hL rfl rfl rfl rfl rfl (by kernel_rfl) (by simp [Value.oneCell']) rfl ?_; clear hL; intro w5 hL)
    | ((with_reducible refine post_gate ?_); exact post1 rfl (res_cell (hL.at_ (i := 1) rfl) rfl (by kernel_rfl) rfl (by kernel_rfl)) rfl ⟨rfl, hL.toBelow⟩))

theorem sq_bounds {d : Int} (h1 : -255 ≤ d) (h2 : d ≤ 255) : 0 ≤ d * d ∧ d * d ≤ 65025 := by
  have e : d * d = (d.natAbs * d.natAbs : Nat) := by rw [← Int.natAbs_mul_self]
  have hn : d.natAbs ≤ 255 := by omega
  have := Nat.mul_le_mul hn hn
  omega
set_option maxRecDepth 100000 in
theorem specSquareOf_any (a b : Sp) (w : World) (ha : a.ok) (hb : b.ok) :
    Calls Try.prog 96 #[.agg #[.int .i8 a.x, .int .i8 a.y], .agg #[.int .i8 b.x, .int .i8 b.y]] w fun e w' => e = .returned (.int .i64 (sqOf a b)) ∧ Below w.heap.size w w' := by
  have hL := Own.start w
  obtain ⟨x1, y1⟩ := a
  obtain ⟨x2, y2⟩ := b
  obtain ⟨a1, a2, a3, a4⟩ := ha
  obtain ⟨b1, b2, b3, b4⟩ := hb
  simp only [] at a1 a2 a3 a4 b1 b2 b3 b4
  show Calls Try.prog 96 #[.agg #[.int .i8 x1, .int .i8 y1], .agg #[.int .i8 x2, .int .i8 y2]] w fun e w' => e = .returned (.int .i64 ((x1 - x2) * (x1 - x2) + (y1 - y2) * (y1 - y2))) ∧ Below w.heap.size w w'
  obtain ⟨p1, p2⟩ := sq_bounds (d := x1 - x2) (by omega) (by omega)
  obtain ⟨q1, q2⟩ := sq_bounds (d := y1 - y2) (by omega) (by omega)
  go_enter Try.func96, Try.ntmps96
  go_wp2_with (first
    | ((with_reducible refine gate_dst (N := 2) rfl ?_); refine wpl_box (cs := #[.int .i8 x1, .int .i8 y1]) hL rfl rfl rfl ?_; clear hL; intro g2 w2 hL)
    | ((with_reducible refine gate_dst (N := 3) rfl ?_); refine wpl_box (cs := #[.int .i8 x2, .int .i8 y2]) hL rfl rfl rfl ?_; clear hL; intro g3 w3 hL)
    | ((with_reducible refine gate_load rfl ?_); first | (refine wpl_load_0 hL rfl rfl (by kernel_rfl) rfl (by first | rfl | assumption) ?_) | (refine wpl_load_1 hL rfl rfl (by kernel_rfl) rfl (by first | rfl | assumption) ?_) | (refine wpl_load_2 hL rfl rfl (by kernel_rfl) rfl (by first | rfl | assumption) ?_) | (refine wpl_load_3 hL rfl rfl (by kernel_rfl) rfl (by first | rfl | assumption) ?_) | (refine wpl_load_4 hL rfl rfl (by kernel_rfl) rfl (by first | rfl | assumption) ?_) | (refine wpl_load_5 hL rfl rfl (by kernel_rfl) rfl (by first | rfl | assumption) ?_)))
  go_ret
  exact ⟨rfl, hL.toBelow⟩
set_option maxRecDepth 100000 in
theorem implSquareOf_any (a b : Sp) (w : World) (ha : a.ok) (hb : b.ok) :
    Calls Try.prog 108 #[.agg #[.int .i8 a.x, .int .i8 a.y], .agg #[.int .i8 b.x, .int .i8 b.y]] w fun e w' => e = .returned (.int .i64 (sqOf a b)) ∧ Below w.heap.size w w' := by
  have hL := Own.start w
  obtain ⟨x1, y1⟩ := a
  obtain ⟨x2, y2⟩ := b
  obtain ⟨a1, a2, a3, a4⟩ := ha
  obtain ⟨b1, b2, b3, b4⟩ := hb
  simp only [] at a1 a2 a3 a4 b1 b2 b3 b4
  show Calls Try.prog 108 #[.agg #[.int .i8 x1, .int .i8 y1], .agg #[.int .i8 x2, .int .i8 y2]] w fun e w' => e = .returned (.int .i64 ((x1 - x2) * (x1 - x2) + (y1 - y2) * (y1 - y2))) ∧ Below w.heap.size w w'
  obtain ⟨p1, p2⟩ := sq_bounds (d := x1 - x2) (by omega) (by omega)
  obtain ⟨q1, q2⟩ := sq_bounds (d := y1 - y2) (by omega) (by omega)
  go_enter Try.func108, Try.ntmps108
  go_wp2_with (first
    | ((with_reducible refine gate_dst (N := 2) rfl ?_); refine wpl_box (cs := #[.int .i8 x1, .int .i8 y1]) hL rfl rfl rfl ?_; clear hL; intro g2 w2 hL)
    | ((with_reducible refine gate_dst (N := 3) rfl ?_); refine wpl_box (cs := #[.int .i8 x2, .int .i8 y2]) hL rfl rfl rfl ?_; clear hL; intro g3 w3 hL)
    | ((with_reducible refine gate_load rfl ?_); first | (refine wpl_load_0 hL rfl rfl (by kernel_rfl) rfl (by first | rfl | assumption) ?_) | (refine wpl_load_1 hL rfl rfl (by kernel_rfl) rfl (by first | rfl | assumption) ?_) | (refine wpl_load_2 hL rfl rfl (by kernel_rfl) rfl (by first | rfl | assumption) ?_) | (refine wpl_load_3 hL rfl rfl (by kernel_rfl) rfl (by first | rfl | assumption) ?_) | (refine wpl_load_4 hL rfl rfl (by kernel_rfl) rfl (by first | rfl | assumption) ?_) | (refine wpl_load_5 hL rfl rfl (by kernel_rfl) rfl (by first | rfl | assumption) ?_)))
  refine' Calm.wp_region_calm_lit [.inl _, .inl _, .inl _, .inl _, .inl _, .inl _, .inl _, .inl _, .inl _, .inl _, .inl _, .inl _, .inl _, .inl _, .inl _, .inl _] (by kernel_rfl) (by kernel_rfl) (by kernel_rfl) ?_
  rotate_left 16
  refine lex_pure rfl rfl (by intro w'; go_simp; (try go_bits); rfl) ?_
  (try simp only [Act.put, Act.eval, Array.getD_eq_getD_getElem?, List.setIfInBounds_toArray, List.set_cons_zero, List.set_cons_succ, List.getElem?_toArray, List.getElem?_cons_zero, List.getElem?_cons_succ, Option.getD_some, List.getElem_toArray, List.getElem_cons_zero, List.getElem_cons_succ])
  first | (refine lex_load_0 hL rfl rfl (by kernel_rfl) rfl (by first | rfl | assumption) rfl ?_) | (refine lex_load_1 hL rfl rfl (by kernel_rfl) rfl (by first | rfl | assumption) rfl ?_) | (refine lex_load_2 hL rfl rfl (by kernel_rfl) rfl (by first | rfl | assumption) rfl ?_) | (refine lex_load_3 hL rfl rfl (by kernel_rfl) rfl (by first | rfl | assumption) rfl ?_) | (refine lex_load_4 hL rfl rfl (by kernel_rfl) rfl (by first | rfl | assumption) rfl ?_) | (refine lex_load_5 hL rfl rfl (by kernel_rfl) rfl (by first | rfl | assumption) rfl ?_)
  (try simp only [Act.put, Act.eval, Array.getD_eq_getD_getElem?, List.setIfInBounds_toArray, List.set_cons_zero, List.set_cons_succ, List.getElem?_toArray, List.getElem?_cons_zero, List.getElem?_cons_succ, Option.getD_some, List.getElem_toArray, List.getElem_cons_zero, List.getElem_cons_succ])
  refine lex_pure rfl rfl (by intro w'; go_simp; (try go_bits); rfl) ?_
  (try simp only [Act.put, Act.eval, Array.getD_eq_getD_getElem?, List.setIfInBounds_toArray, List.set_cons_zero, List.set_cons_succ, List.getElem?_toArray, List.getElem?_cons_zero, List.getElem?_cons_succ, Option.getD_some, List.getElem_toArray, List.getElem_cons_zero, List.getElem_cons_succ])
  refine lex_pure rfl rfl (by intro w'; go_simp; (try go_bits); rfl) ?_
  (try simp only [Act.put, Act.eval, Array.getD_eq_getD_getElem?, List.setIfInBounds_toArray, List.set_cons_zero, List.set_cons_succ, List.getElem?_toArray, List.getElem?_cons_zero, List.getElem?_cons_succ, Option.getD_some, List.getElem_toArray, List.getElem_cons_zero, List.getElem_cons_succ])
  first | (refine lex_load_0 hL rfl rfl (by kernel_rfl) rfl (by first | rfl | assumption) rfl ?_) | (refine lex_load_1 hL rfl rfl (by kernel_rfl) rfl (by first | rfl | assumption) rfl ?_) | (refine lex_load_2 hL rfl rfl (by kernel_rfl) rfl (by first | rfl | assumption) rfl ?_) | (refine lex_load_3 hL rfl rfl (by kernel_rfl) rfl (by first | rfl | assumption) rfl ?_) | (refine lex_load_4 hL rfl rfl (by kernel_rfl) rfl (by first | rfl | assumption) rfl ?_) | (refine lex_load_5 hL rfl rfl (by kernel_rfl) rfl (by first | rfl | assumption) rfl ?_)
  (try simp only [Act.put, Act.eval, Array.getD_eq_getD_getElem?, List.setIfInBounds_toArray, List.set_cons_zero, List.set_cons_succ, List.getElem?_toArray, List.getElem?_cons_zero, List.getElem?_cons_succ, Option.getD_some, List.getElem_toArray, List.getElem_cons_zero, List.getElem_cons_succ])
  refine lex_pure rfl rfl (by intro w'; go_simp; (try go_bits); rfl) ?_
  (try simp only [Act.put, Act.eval, Array.getD_eq_getD_getElem?, List.setIfInBounds_toArray, List.set_cons_zero, List.set_cons_succ, List.getElem?_toArray, List.getElem?_cons_zero, List.getElem?_cons_succ, Option.getD_some, List.getElem_toArray, List.getElem_cons_zero, List.getElem_cons_succ])
  refine lex_pure rfl rfl (by intro w'; go_simp; (try go_bits); rfl) ?_
  (try simp only [Act.put, Act.eval, Array.getD_eq_getD_getElem?, List.setIfInBounds_toArray, List.set_cons_zero, List.set_cons_succ, List.getElem?_toArray, List.getElem?_cons_zero, List.getElem?_cons_succ, Option.getD_some, List.getElem_toArray, List.getElem_cons_zero, List.getElem_cons_succ])
  refine lex_pure rfl rfl (by intro w'; go_simp; (try go_bits); rfl) ?_
  (try simp only [Act.put, Act.eval, Array.getD_eq_getD_getElem?, List.setIfInBounds_toArray, List.set_cons_zero, List.set_cons_succ, List.getElem?_toArray, List.getElem?_cons_zero, List.getElem?_cons_succ, Option.getD_some, List.getElem_toArray, List.getElem_cons_zero, List.getElem_cons_succ])
  first | (refine lex_load_0 hL rfl rfl (by kernel_rfl) rfl (by first | rfl | assumption) rfl ?_) | (refine lex_load_1 hL rfl rfl (by kernel_rfl) rfl (by first | rfl | assumption) rfl ?_) | (refine lex_load_2 hL rfl rfl (by kernel_rfl) rfl (by first | rfl | assumption) rfl ?_) | (refine lex_load_3 hL rfl rfl (by kernel_rfl) rfl (by first | rfl | assumption) rfl ?_) | (refine lex_load_4 hL rfl rfl (by kernel_rfl) rfl (by first | rfl | assumption) rfl ?_) | (refine lex_load_5 hL rfl rfl (by kernel_rfl) rfl (by first | rfl | assumption) rfl ?_)
  (try simp only [Act.put, Act.eval, Array.getD_eq_getD_getElem?, List.setIfInBounds_toArray, List.set_cons_zero, List.set_cons_succ, List.getElem?_toArray, List.getElem?_cons_zero, List.getElem?_cons_succ, Option.getD_some, List.getElem_toArray, List.getElem_cons_zero, List.getElem_cons_succ])
  refine lex_pure rfl rfl (by intro w'; go_simp; (try go_bits); rfl) ?_
  (try simp only [Act.put, Act.eval, Array.getD_eq_getD_getElem?, List.setIfInBounds_toArray, List.set_cons_zero, List.set_cons_succ, List.getElem?_toArray, List.getElem?_cons_zero, List.getElem?_cons_succ, Option.getD_some, List.getElem_toArray, List.getElem_cons_zero, List.getElem_cons_succ])
  refine lex_pure rfl rfl (by intro w'; go_simp; (try go_bits); rfl) ?_
  (try simp only [Act.put, Act.eval, Array.getD_eq_getD_getElem?, List.setIfInBounds_toArray, List.set_cons_zero, List.set_cons_succ, List.getElem?_toArray, List.getElem?_cons_zero, List.getElem?_cons_succ, Option.getD_some, List.getElem_toArray, List.getElem_cons_zero, List.getElem_cons_succ])
  first | (refine lex_load_0 hL rfl rfl (by kernel_rfl) rfl (by first | rfl | assumption) rfl ?_) | (refine lex_load_1 hL rfl rfl (by kernel_rfl) rfl (by first | rfl | assumption) rfl ?_) | (refine lex_load_2 hL rfl rfl (by kernel_rfl) rfl (by first | rfl | assumption) rfl ?_) | (refine lex_load_3 hL rfl rfl (by kernel_rfl) rfl (by first | rfl | assumption) rfl ?_) | (refine lex_load_4 hL rfl rfl (by kernel_rfl) rfl (by first | rfl | assumption) rfl ?_) | (refine lex_load_5 hL rfl rfl (by kernel_rfl) rfl (by first | rfl | assumption) rfl ?_)
  (try simp only [Act.put, Act.eval, Array.getD_eq_getD_getElem?, List.setIfInBounds_toArray, List.set_cons_zero, List.set_cons_succ, List.getElem?_toArray, List.getElem?_cons_zero, List.getElem?_cons_succ, Option.getD_some, List.getElem_toArray, List.getElem_cons_zero, List.getElem_cons_succ])
  refine lex_pure rfl rfl (by intro w'; go_simp; (try go_bits); rfl) ?_
  (try simp only [Act.put, Act.eval, Array.getD_eq_getD_getElem?, List.setIfInBounds_toArray, List.set_cons_zero, List.set_cons_succ, List.getElem?_toArray, List.getElem?_cons_zero, List.getElem?_cons_succ, Option.getD_some, List.getElem_toArray, List.getElem_cons_zero, List.getElem_cons_succ])
  refine lex_pure rfl rfl (by intro w'; go_simp; (try go_bits); rfl) ?_
  (try simp only [Act.put, Act.eval, Array.getD_eq_getD_getElem?, List.setIfInBounds_toArray, List.set_cons_zero, List.set_cons_succ, List.getElem?_toArray, List.getElem?_cons_zero, List.getElem?_cons_succ, Option.getD_some, List.getElem_toArray, List.getElem_cons_zero, List.getElem_cons_succ])
  refine lex_assign rfl rfl (by simp only [Act.eval, Array.getD_eq_getD_getElem?, List.getElem?_toArray, List.getElem?_cons_zero, List.getElem?_cons_succ, Option.getD_some]; rfl) rfl ?_
  (try simp only [Act.put, Act.eval, Array.getD_eq_getD_getElem?, List.setIfInBounds_toArray, List.set_cons_zero, List.set_cons_succ, List.getElem?_toArray, List.getElem?_cons_zero, List.getElem?_cons_succ, Option.getD_some, List.getElem_toArray, List.getElem_cons_zero, List.getElem_cons_succ])
  refine lex_assign rfl rfl (by simp only [Act.eval, Array.getD_eq_getD_getElem?, List.getElem?_toArray, List.getElem?_cons_zero, List.getElem?_cons_succ, Option.getD_some]; rfl) rfl ?_
  (try simp only [Act.put, Act.eval, Array.getD_eq_getD_getElem?, List.setIfInBounds_toArray, List.set_cons_zero, List.set_cons_succ, List.getElem?_toArray, List.getElem?_cons_zero, List.getElem?_cons_succ, Option.getD_some, List.getElem_toArray, List.getElem_cons_zero, List.getElem_cons_succ])
  intro wc hH
  replace hL := hL.ext hH.below
  clear hH
  go_wp2
  go_ret
  exact ⟨rfl, hL.toBelow⟩
end Go.Proofs.Ytpifngdmlmfnhaa
