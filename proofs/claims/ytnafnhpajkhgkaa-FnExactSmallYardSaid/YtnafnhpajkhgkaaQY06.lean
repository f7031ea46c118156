import Derived.Test.YtnafnhpajkhgkaaQY05
/- Pastures: bounds, cells, validity: what the program's and the reference's functions return, as plain predicates. No condition. -/
namespace Go.Proofs.Ytnafnhpajkhgkaa
set_option linter.unusedVariables false
set_option linter.unusedSimpArgs false
open Go.RowKit Mem
attribute [local irreducible] Calm.wpLex
/-- a number within bounds -/
def inB (n lo hi : Int) : Bool := decide (lo ≤ n) && decide (n ≤ hi)
/-- a cell of a pasture that is a by b -/
def isC (a b x y : Int) : Bool := inB x 0 (min a 10 - 1) && inB y 0 (min b 10 - 1)

set_option maxRecDepth 100000 in
set_option maxHeartbeats 1000000 in
theorem within_any (n lo hi : Int) (w : World) : Calls Try.prog 49 #[.int .i64 n, .int .i64 lo, .int .i64 hi] w fun e w' => e = .returned (.bool (inB n lo hi)) ∧ w = w' := by
  unfold inB
  by_cases h1 : lo ≤ n
  · by_cases h2 : n ≤ hi
    · simp only [h1, h2, decide_true, Bool.and_self]
      go_enter Try.func49, Try.ntmps49
      go_wp2
      go_ret
      exact ⟨rfl, rfl⟩
    · have hd : decide (n ≤ hi) = false := by simpa using h2
      rw [hd, Bool.and_false]
      go_enter Try.func49, Try.ntmps49
      go_wp2
      go_ret
      exact ⟨rfl, rfl⟩
  · have hd : decide (lo ≤ n) = false := by simpa using h1
    rw [hd, Bool.false_and]
    go_enter Try.func49, Try.ntmps49
    go_wp2
    go_ret
    exact ⟨rfl, rfl⟩
set_option maxRecDepth 100000 in
set_option maxHeartbeats 1000000 in
theorem l00In_any (n lo hi : Int) (w : World) : Calls Try.prog 46 #[.int .i64 n, .int .i64 lo, .int .i64 hi] w fun e w' => e = .returned (.bool (inB n lo hi)) ∧ w = w' := by
  unfold inB
  by_cases h1 : lo ≤ n
  · by_cases h2 : n ≤ hi
    · simp only [h1, h2, decide_true, Bool.and_self]
      go_enter Try.func46, Try.ntmps46
      go_wp2
      go_ret
      exact ⟨rfl, rfl⟩
    · have hd : decide (n ≤ hi) = false := by simpa using h2
      rw [hd, Bool.and_false]
      go_enter Try.func46, Try.ntmps46
      go_wp2
      go_ret
      exact ⟨rfl, rfl⟩
  · have hd : decide (lo ≤ n) = false := by simpa using h1
    rw [hd, Bool.false_and]
    go_enter Try.func46, Try.ntmps46
    go_wp2
    go_ret
    exact ⟨rfl, rfl⟩
section
attribute [local go_sem] min2_int min_two
set_option maxRecDepth 100000 in
set_option maxHeartbeats 1000000 in
theorem isCell_any (p : Nat → Int) (cs : Array Value) (x y : Int) (w : World) (hp : Pv p cs) (hx : -128 ≤ x ∧ x ≤ 127) (hy : -128 ≤ y ∧ y ≤ 127) :
    Calls Try.prog 63 #[.agg cs, .agg #[.int .i8 x, .int .i8 y]] w fun e w' => e = .returned (.bool (isC (p 0) (p 1) x y)) ∧ Below w.heap.size w w' := by
  have hL := Own.start w
  have g0 := hp.g0
  have g1 := hp.g1
  have b0 := hp.i8 0 (by omega)
  have b1 := hp.i8 1 (by omega)
  have m0 : min (p 0) 10 - 1 ≤ 9 ∧ -129 ≤ min (p 0) 10 - 1 := by omega
  have m1 : min (p 1) 10 - 1 ≤ 9 ∧ -129 ≤ min (p 1) 10 - 1 := by omega
  unfold isC
  cases h1 : inB x 0 (min (p 0) 10 - 1) with
  | false =>
    rw [Bool.false_and]
    go_enter Try.func63, Try.ntmps63
    go_wp2_with (first
      | ((with_reducible refine gate_dst (N := 2) rfl ?_); refine wpl_box (cs := cs) hL rfl rfl rfl ?_; clear hL; intro g2 w2 hL)
      | ((with_reducible refine gate_dst (N := 3) rfl ?_); refine wpl_box (cs := #[.int .i8 x, .int .i8 y]) hL rfl rfl rfl ?_; clear hL; intro g3 w3 hL)
      | ((with_reducible refine gate_load rfl ?_); (with_reducible refine wpl_ungate ?_ ?_); first | (kernel_rfl) | skip)
      | ((with_reducible refine gate_load rfl ?_); first | (refine wpl_load_0 hL rfl rfl (by kernel_rfl) rfl (by first | rfl | assumption) ?_) | (refine wpl_load_1 hL rfl rfl (by kernel_rfl) rfl (by first | rfl | assumption) ?_) | (refine wpl_load_2 hL rfl rfl (by kernel_rfl) rfl (by first | rfl | assumption) ?_) | (refine wpl_load_3 hL rfl rfl (by kernel_rfl) rfl (by first | rfl | assumption) ?_) | (refine wpl_load_4 hL rfl rfl (by kernel_rfl) rfl (by first | rfl | assumption) ?_) | (refine wpl_load_5 hL rfl rfl (by kernel_rfl) rfl (by first | rfl | assumption) ?_))
      | (go_at_call 49; (with_reducible refine (within_any x 0 (min (p 0) 10 - 1) _).mono ?_); rintro e w4 ⟨rfl, rfl⟩; rw [h1]))
    go_ret
    exact ⟨rfl, hL.toBelow⟩
  | true =>
    rw [Bool.true_and]
    go_enter Try.func63, Try.ntmps63
    go_wp2_with (first
      | ((with_reducible refine gate_dst (N := 2) rfl ?_); refine wpl_box (cs := cs) hL rfl rfl rfl ?_; clear hL; intro g2 w2 hL)
      | ((with_reducible refine gate_dst (N := 3) rfl ?_); refine wpl_box (cs := #[.int .i8 x, .int .i8 y]) hL rfl rfl rfl ?_; clear hL; intro g3 w3 hL)
      | ((with_reducible refine gate_load rfl ?_); (with_reducible refine wpl_ungate ?_ ?_); first | (kernel_rfl) | skip)
      | ((with_reducible refine gate_load rfl ?_); first | (refine wpl_load_0 hL rfl rfl (by kernel_rfl) rfl (by first | rfl | assumption) ?_) | (refine wpl_load_1 hL rfl rfl (by kernel_rfl) rfl (by first | rfl | assumption) ?_) | (refine wpl_load_2 hL rfl rfl (by kernel_rfl) rfl (by first | rfl | assumption) ?_) | (refine wpl_load_3 hL rfl rfl (by kernel_rfl) rfl (by first | rfl | assumption) ?_) | (refine wpl_load_4 hL rfl rfl (by kernel_rfl) rfl (by first | rfl | assumption) ?_) | (refine wpl_load_5 hL rfl rfl (by kernel_rfl) rfl (by first | rfl | assumption) ?_))
      | (go_at_call 49; (with_reducible refine (within_any x 0 (min (p 0) 10 - 1) _).mono ?_); rintro e w4 ⟨rfl, rfl⟩; rw [h1])
      | (go_at_call 49; (with_reducible refine (within_any y 0 (min (p 1) 10 - 1) _).mono ?_); rintro e w4 ⟨rfl, rfl⟩))
    go_ret
    exact ⟨rfl, hL.toBelow⟩
end
set_option maxRecDepth 100000 in
set_option maxHeartbeats 1000000 in
theorem l01Grass_any (n : Int) (w : World) : Calls Try.prog 105 #[.int .i64 n] w fun e w' => e = .returned (.bool (inB n 0 1000)) ∧ w = w' := by
  go_enter Try.func105, Try.ntmps105
  go_wp2_with (first
    | (go_at_call 46; (with_reducible refine (l00In_any n 0 1000 _).mono ?_); rintro e w4 ⟨rfl, rfl⟩))
  go_ret
  exact ⟨rfl, rfl⟩
theorem isC_small {a b x y : Int} (ha : a ≤ 10) (hb : b ≤ 10) : isC a b x y = (inB x 0 (a - 1) && inB y 0 (b - 1)) := by
  unfold isC; rw [show min a 10 = a by omega, show min b 10 = b by omega]
set_option maxRecDepth 100000 in
set_option maxHeartbeats 1000000 in
theorem l01Is_any (p : Nat → Int) (cs : Array Value) (T : TypeId) (g : Nat) (x y : Int) (w : World) (hp : Pv p cs) (hg : w.heap[g]? = some (.cells cs T (0, 0))) (ha : p 0 ≤ 10) (hb : p 1 ≤ 10) (hx : -128 ≤ x ∧ x ≤ 127) (hy : -128 ≤ y ∧ y ≤ 127) :
    Calls Try.prog 88 #[.pointer (some ⟨g, 0, none⟩), .agg #[.int .i8 x, .int .i8 y]] w fun e w' => e = .returned (.bool (isC (p 0) (p 1) x y)) ∧ Below w.heap.size w w' := by
  have hL := Own.startAt w hg
  have g0 := hp.g0
  have g1 := hp.g1
  have b0 := hp.i8 0 (by omega)
  have b1 := hp.i8 1 (by omega)
  rw [isC_small ha hb]
  cases h1 : inB x 0 (p 0 - 1) with
  | false =>
    rw [Bool.false_and]
    go_enter Try.func88, Try.ntmps88
    go_wp2_with (first
      | ((with_reducible refine gate_dst (N := 3) rfl ?_); refine wpl_box (cs := #[.int .i8 x, .int .i8 y]) hL rfl rfl rfl ?_; clear hL; intro g3 w3 hL))
    refine' Calm.wp_region_calm_lit [.inl _, .inl _, .inl _, .inl _, .inl _, .inl _, .inl _, .inl _, .inl _, .inl (.bool false), .inl _, .inl undef, .inl undef, .inl undef, .inl undef, .inl undef, .inl undef, .inl undef, .inl undef, .inl undef, .inl undef, .inl _, .inl _] (by kernel_rfl) (by kernel_rfl) (by kernel_rfl) ?_
    rotate_left 12
    refine lex_pure rfl rfl (by intro w'; go_simp; (try go_bits); rfl) ?_
    (try simp only [Act.put, Act.eval, Array.getD_eq_getD_getElem?, List.setIfInBounds_toArray, List.set_cons_zero, List.set_cons_succ, List.getElem?_toArray, List.getElem?_cons_zero, List.getElem?_cons_succ, Option.getD_some, List.getElem_toArray, List.getElem_cons_zero, List.getElem_cons_succ])
    first | (refine lex_load_0 hL rfl rfl (by kernel_rfl) rfl (by first | rfl | assumption) rfl ?_) | (refine lex_load_1 hL rfl rfl (by kernel_rfl) rfl (by first | rfl | assumption) rfl ?_) | (refine lex_load_2 hL rfl rfl (by kernel_rfl) rfl (by first | rfl | assumption) rfl ?_) | (refine lex_load_3 hL rfl rfl (by kernel_rfl) rfl (by first | rfl | assumption) rfl ?_) | (refine lex_load_4 hL rfl rfl (by kernel_rfl) rfl (by first | rfl | assumption) rfl ?_) | (refine lex_load_5 hL rfl rfl (by kernel_rfl) rfl (by first | rfl | assumption) rfl ?_)
    (try simp only [Act.put, Act.eval, Array.getD_eq_getD_getElem?, List.setIfInBounds_toArray, List.set_cons_zero, List.set_cons_succ, List.getElem?_toArray, List.getElem?_cons_zero, List.getElem?_cons_succ, Option.getD_some, List.getElem_toArray, List.getElem_cons_zero, List.getElem_cons_succ])
    refine lex_pure rfl rfl (by intro w'; go_simp; (try go_bits); rfl) ?_
    (try simp only [Act.put, Act.eval, Array.getD_eq_getD_getElem?, List.setIfInBounds_toArray, List.set_cons_zero, List.set_cons_succ, List.getElem?_toArray, List.getElem?_cons_zero, List.getElem?_cons_succ, Option.getD_some, List.getElem_toArray, List.getElem_cons_zero, List.getElem_cons_succ])
    refine lex_move rfl rfl (by simp only [Act.eval, Array.getD_eq_getD_getElem?, List.getElem?_toArray, List.getElem?_cons_zero, List.getElem?_cons_succ, Option.getD_some]; rfl) rfl ?_
    (try simp only [Act.put, Act.eval, Array.getD_eq_getD_getElem?, List.setIfInBounds_toArray, List.set_cons_zero, List.set_cons_succ, List.getElem?_toArray, List.getElem?_cons_zero, List.getElem?_cons_succ, Option.getD_some, List.getElem_toArray, List.getElem_cons_zero, List.getElem_cons_succ])
    refine lex_pure rfl rfl (by intro w'; go_simp; (try go_bits); rfl) ?_
    (try simp only [Act.put, Act.eval, Array.getD_eq_getD_getElem?, List.setIfInBounds_toArray, List.set_cons_zero, List.set_cons_succ, List.getElem?_toArray, List.getElem?_cons_zero, List.getElem?_cons_succ, Option.getD_some, List.getElem_toArray, List.getElem_cons_zero, List.getElem_cons_succ])
    refine lex_pure rfl rfl (by intro w'; go_simp; (try go_bits); rfl) ?_
    (try simp only [Act.put, Act.eval, Array.getD_eq_getD_getElem?, List.setIfInBounds_toArray, List.set_cons_zero, List.set_cons_succ, List.getElem?_toArray, List.getElem?_cons_zero, List.getElem?_cons_succ, Option.getD_some, List.getElem_toArray, List.getElem_cons_zero, List.getElem_cons_succ])
    first | (refine lex_load_0 hL rfl rfl (by kernel_rfl) rfl (by first | rfl | assumption) rfl ?_) | (refine lex_load_1 hL rfl rfl (by kernel_rfl) rfl (by first | rfl | assumption) rfl ?_) | (refine lex_load_2 hL rfl rfl (by kernel_rfl) rfl (by first | rfl | assumption) rfl ?_) | (refine lex_load_3 hL rfl rfl (by kernel_rfl) rfl (by first | rfl | assumption) rfl ?_) | (refine lex_load_4 hL rfl rfl (by kernel_rfl) rfl (by first | rfl | assumption) rfl ?_) | (refine lex_load_5 hL rfl rfl (by kernel_rfl) rfl (by first | rfl | assumption) rfl ?_)
    (try simp only [Act.put, Act.eval, Array.getD_eq_getD_getElem?, List.setIfInBounds_toArray, List.set_cons_zero, List.set_cons_succ, List.getElem?_toArray, List.getElem?_cons_zero, List.getElem?_cons_succ, Option.getD_some, List.getElem_toArray, List.getElem_cons_zero, List.getElem_cons_succ])
    refine lex_pure rfl rfl (by intro w'; go_simp; (try go_bits); rfl) ?_
    (try simp only [Act.put, Act.eval, Array.getD_eq_getD_getElem?, List.setIfInBounds_toArray, List.set_cons_zero, List.set_cons_succ, List.getElem?_toArray, List.getElem?_cons_zero, List.getElem?_cons_succ, Option.getD_some, List.getElem_toArray, List.getElem_cons_zero, List.getElem_cons_succ])
    refine lex_pure rfl rfl (by intro w'; go_simp; (try go_bits); rfl) ?_
    (try simp only [Act.put, Act.eval, Array.getD_eq_getD_getElem?, List.setIfInBounds_toArray, List.set_cons_zero, List.set_cons_succ, List.getElem?_toArray, List.getElem?_cons_zero, List.getElem?_cons_succ, Option.getD_some, List.getElem_toArray, List.getElem_cons_zero, List.getElem_cons_succ])
    refine lex_call Try.func46 (by kernel_rfl) rfl rfl rfl (by simp only [List.map_toArray, List.map_cons, List.map_nil, Act.eval, Array.getD_eq_getD_getElem?, List.getElem?_toArray, List.getElem?_cons_zero, List.getElem?_cons_succ, Option.getD_some]; try rfl) rfl (fun w' hb => to_below (l00In_any x 0 (p 0 - 1) w') (congrArg Value.bool h1)) ?_
    (try simp only [Act.put, Act.eval, Array.getD_eq_getD_getElem?, List.setIfInBounds_toArray, List.set_cons_zero, List.set_cons_succ, List.getElem?_toArray, List.getElem?_cons_zero, List.getElem?_cons_succ, Option.getD_some, List.getElem_toArray, List.getElem_cons_zero, List.getElem_cons_succ])
    refine lex_move rfl rfl (by simp only [Act.eval, Array.getD_eq_getD_getElem?, List.getElem?_toArray, List.getElem?_cons_zero, List.getElem?_cons_succ, Option.getD_some]; rfl) rfl ?_
    (try simp only [Act.put, Act.eval, Array.getD_eq_getD_getElem?, List.setIfInBounds_toArray, List.set_cons_zero, List.set_cons_succ, List.getElem?_toArray, List.getElem?_cons_zero, List.getElem?_cons_succ, Option.getD_some, List.getElem_toArray, List.getElem_cons_zero, List.getElem_cons_succ])
    refine lex_skip (by kernel_rfl) ?_
    (try simp only [Act.put, Act.eval, Array.getD_eq_getD_getElem?, List.setIfInBounds_toArray, List.set_cons_zero, List.set_cons_succ, List.getElem?_toArray, List.getElem?_cons_zero, List.getElem?_cons_succ, Option.getD_some, List.getElem_toArray, List.getElem_cons_zero, List.getElem_cons_succ])
    refine lex_skip (by kernel_rfl) ?_
    (try simp only [Act.put, Act.eval, Array.getD_eq_getD_getElem?, List.setIfInBounds_toArray, List.set_cons_zero, List.set_cons_succ, List.getElem?_toArray, List.getElem?_cons_zero, List.getElem?_cons_succ, Option.getD_some, List.getElem_toArray, List.getElem_cons_zero, List.getElem_cons_succ])
    refine lex_skip (by kernel_rfl) ?_
    (try simp only [Act.put, Act.eval, Array.getD_eq_getD_getElem?, List.setIfInBounds_toArray, List.set_cons_zero, List.set_cons_succ, List.getElem?_toArray, List.getElem?_cons_zero, List.getElem?_cons_succ, Option.getD_some, List.getElem_toArray, List.getElem_cons_zero, List.getElem_cons_succ])
    refine lex_skip (by kernel_rfl) ?_
    (try simp only [Act.put, Act.eval, Array.getD_eq_getD_getElem?, List.setIfInBounds_toArray, List.set_cons_zero, List.set_cons_succ, List.getElem?_toArray, List.getElem?_cons_zero, List.getElem?_cons_succ, Option.getD_some, List.getElem_toArray, List.getElem_cons_zero, List.getElem_cons_succ])
    refine lex_skip (by kernel_rfl) ?_
    (try simp only [Act.put, Act.eval, Array.getD_eq_getD_getElem?, List.setIfInBounds_toArray, List.set_cons_zero, List.set_cons_succ, List.getElem?_toArray, List.getElem?_cons_zero, List.getElem?_cons_succ, Option.getD_some, List.getElem_toArray, List.getElem_cons_zero, List.getElem_cons_succ])
    refine lex_skip (by kernel_rfl) ?_
    (try simp only [Act.put, Act.eval, Array.getD_eq_getD_getElem?, List.setIfInBounds_toArray, List.set_cons_zero, List.set_cons_succ, List.getElem?_toArray, List.getElem?_cons_zero, List.getElem?_cons_succ, Option.getD_some, List.getElem_toArray, List.getElem_cons_zero, List.getElem_cons_succ])
    refine lex_skip (by kernel_rfl) ?_
    (try simp only [Act.put, Act.eval, Array.getD_eq_getD_getElem?, List.setIfInBounds_toArray, List.set_cons_zero, List.set_cons_succ, List.getElem?_toArray, List.getElem?_cons_zero, List.getElem?_cons_succ, Option.getD_some, List.getElem_toArray, List.getElem_cons_zero, List.getElem_cons_succ])
    refine lex_skip (by kernel_rfl) ?_
    (try simp only [Act.put, Act.eval, Array.getD_eq_getD_getElem?, List.setIfInBounds_toArray, List.set_cons_zero, List.set_cons_succ, List.getElem?_toArray, List.getElem?_cons_zero, List.getElem?_cons_succ, Option.getD_some, List.getElem_toArray, List.getElem_cons_zero, List.getElem_cons_succ])
    refine lex_skip (by kernel_rfl) ?_
    (try simp only [Act.put, Act.eval, Array.getD_eq_getD_getElem?, List.setIfInBounds_toArray, List.set_cons_zero, List.set_cons_succ, List.getElem?_toArray, List.getElem?_cons_zero, List.getElem?_cons_succ, Option.getD_some, List.getElem_toArray, List.getElem_cons_zero, List.getElem_cons_succ])
    refine lex_skip (by kernel_rfl) ?_
    (try simp only [Act.put, Act.eval, Array.getD_eq_getD_getElem?, List.setIfInBounds_toArray, List.set_cons_zero, List.set_cons_succ, List.getElem?_toArray, List.getElem?_cons_zero, List.getElem?_cons_succ, Option.getD_some, List.getElem_toArray, List.getElem_cons_zero, List.getElem_cons_succ])
    refine lex_pure rfl rfl (by intro w'; go_simp; (try go_bits); rfl) ?_
    (try simp only [Act.put, Act.eval, Array.getD_eq_getD_getElem?, List.setIfInBounds_toArray, List.set_cons_zero, List.set_cons_succ, List.getElem?_toArray, List.getElem?_cons_zero, List.getElem?_cons_succ, Option.getD_some, List.getElem_toArray, List.getElem_cons_zero, List.getElem_cons_succ])
    refine lex_assign rfl rfl (by simp only [Act.eval, Array.getD_eq_getD_getElem?, List.getElem?_toArray, List.getElem?_cons_zero, List.getElem?_cons_succ, Option.getD_some]; rfl) rfl ?_
    (try simp only [Act.put, Act.eval, Array.getD_eq_getD_getElem?, List.setIfInBounds_toArray, List.set_cons_zero, List.set_cons_succ, List.getElem?_toArray, List.getElem?_cons_zero, List.getElem?_cons_succ, Option.getD_some, List.getElem_toArray, List.getElem_cons_zero, List.getElem_cons_succ])
    refine lex_nil ?_
    intro wc hH
    replace hL := hL.ext hH.below
    clear hH
    go_wp2
    go_ret
    exact ⟨rfl, hL.toBelow1 hg (hL.at_ (i := 1) rfl)⟩
  | true =>
    rw [Bool.true_and]
    go_enter Try.func88, Try.ntmps88
    go_wp2_with (first
      | ((with_reducible refine gate_dst (N := 3) rfl ?_); refine wpl_box (cs := #[.int .i8 x, .int .i8 y]) hL rfl rfl rfl ?_; clear hL; intro g3 w3 hL))
    refine' Calm.wp_region_calm_lit [.inl _, .inl _, .inl _, .inl _, .inl _, .inl _, .inl _, .inl _, .inl _, .inl (.bool true), .inl _, .inl _, .inl _, .inl _, .inl _, .inl _, .inl _, .inl _, .inl _, .inl _, .inl (.bool (inB y 0 (p 1 - 1))), .inl _, .inl _] (by kernel_rfl) (by kernel_rfl) (by kernel_rfl) ?_
    rotate_left 21
    refine lex_pure rfl rfl (by intro w'; go_simp; (try go_bits); rfl) ?_
    (try simp only [Act.put, Act.eval, Array.getD_eq_getD_getElem?, List.setIfInBounds_toArray, List.set_cons_zero, List.set_cons_succ, List.getElem?_toArray, List.getElem?_cons_zero, List.getElem?_cons_succ, Option.getD_some, List.getElem_toArray, List.getElem_cons_zero, List.getElem_cons_succ])
    first | (refine lex_load_0 hL rfl rfl (by kernel_rfl) rfl (by first | rfl | assumption) rfl ?_) | (refine lex_load_1 hL rfl rfl (by kernel_rfl) rfl (by first | rfl | assumption) rfl ?_) | (refine lex_load_2 hL rfl rfl (by kernel_rfl) rfl (by first | rfl | assumption) rfl ?_) | (refine lex_load_3 hL rfl rfl (by kernel_rfl) rfl (by first | rfl | assumption) rfl ?_) | (refine lex_load_4 hL rfl rfl (by kernel_rfl) rfl (by first | rfl | assumption) rfl ?_) | (refine lex_load_5 hL rfl rfl (by kernel_rfl) rfl (by first | rfl | assumption) rfl ?_)
    (try simp only [Act.put, Act.eval, Array.getD_eq_getD_getElem?, List.setIfInBounds_toArray, List.set_cons_zero, List.set_cons_succ, List.getElem?_toArray, List.getElem?_cons_zero, List.getElem?_cons_succ, Option.getD_some, List.getElem_toArray, List.getElem_cons_zero, List.getElem_cons_succ])
    refine lex_pure rfl rfl (by intro w'; go_simp; (try go_bits); rfl) ?_
    (try simp only [Act.put, Act.eval, Array.getD_eq_getD_getElem?, List.setIfInBounds_toArray, List.set_cons_zero, List.set_cons_succ, List.getElem?_toArray, List.getElem?_cons_zero, List.getElem?_cons_succ, Option.getD_some, List.getElem_toArray, List.getElem_cons_zero, List.getElem_cons_succ])
    refine lex_move rfl rfl (by simp only [Act.eval, Array.getD_eq_getD_getElem?, List.getElem?_toArray, List.getElem?_cons_zero, List.getElem?_cons_succ, Option.getD_some]; rfl) rfl ?_
    (try simp only [Act.put, Act.eval, Array.getD_eq_getD_getElem?, List.setIfInBounds_toArray, List.set_cons_zero, List.set_cons_succ, List.getElem?_toArray, List.getElem?_cons_zero, List.getElem?_cons_succ, Option.getD_some, List.getElem_toArray, List.getElem_cons_zero, List.getElem_cons_succ])
    refine lex_pure rfl rfl (by intro w'; go_simp; (try go_bits); rfl) ?_
    (try simp only [Act.put, Act.eval, Array.getD_eq_getD_getElem?, List.setIfInBounds_toArray, List.set_cons_zero, List.set_cons_succ, List.getElem?_toArray, List.getElem?_cons_zero, List.getElem?_cons_succ, Option.getD_some, List.getElem_toArray, List.getElem_cons_zero, List.getElem_cons_succ])
    refine lex_pure rfl rfl (by intro w'; go_simp; (try go_bits); rfl) ?_
    (try simp only [Act.put, Act.eval, Array.getD_eq_getD_getElem?, List.setIfInBounds_toArray, List.set_cons_zero, List.set_cons_succ, List.getElem?_toArray, List.getElem?_cons_zero, List.getElem?_cons_succ, Option.getD_some, List.getElem_toArray, List.getElem_cons_zero, List.getElem_cons_succ])
    first | (refine lex_load_0 hL rfl rfl (by kernel_rfl) rfl (by first | rfl | assumption) rfl ?_) | (refine lex_load_1 hL rfl rfl (by kernel_rfl) rfl (by first | rfl | assumption) rfl ?_) | (refine lex_load_2 hL rfl rfl (by kernel_rfl) rfl (by first | rfl | assumption) rfl ?_) | (refine lex_load_3 hL rfl rfl (by kernel_rfl) rfl (by first | rfl | assumption) rfl ?_) | (refine lex_load_4 hL rfl rfl (by kernel_rfl) rfl (by first | rfl | assumption) rfl ?_) | (refine lex_load_5 hL rfl rfl (by kernel_rfl) rfl (by first | rfl | assumption) rfl ?_)
    (try simp only [Act.put, Act.eval, Array.getD_eq_getD_getElem?, List.setIfInBounds_toArray, List.set_cons_zero, List.set_cons_succ, List.getElem?_toArray, List.getElem?_cons_zero, List.getElem?_cons_succ, Option.getD_some, List.getElem_toArray, List.getElem_cons_zero, List.getElem_cons_succ])
    refine lex_pure rfl rfl (by intro w'; go_simp; (try go_bits); rfl) ?_
    (try simp only [Act.put, Act.eval, Array.getD_eq_getD_getElem?, List.setIfInBounds_toArray, List.set_cons_zero, List.set_cons_succ, List.getElem?_toArray, List.getElem?_cons_zero, List.getElem?_cons_succ, Option.getD_some, List.getElem_toArray, List.getElem_cons_zero, List.getElem_cons_succ])
    refine lex_pure rfl rfl (by intro w'; go_simp; (try go_bits); rfl) ?_
    (try simp only [Act.put, Act.eval, Array.getD_eq_getD_getElem?, List.setIfInBounds_toArray, List.set_cons_zero, List.set_cons_succ, List.getElem?_toArray, List.getElem?_cons_zero, List.getElem?_cons_succ, Option.getD_some, List.getElem_toArray, List.getElem_cons_zero, List.getElem_cons_succ])
    refine lex_call Try.func46 (by kernel_rfl) rfl rfl rfl (by simp only [List.map_toArray, List.map_cons, List.map_nil, Act.eval, Array.getD_eq_getD_getElem?, List.getElem?_toArray, List.getElem?_cons_zero, List.getElem?_cons_succ, Option.getD_some]; try rfl) rfl (fun w' hb => to_below (l00In_any x 0 (p 0 - 1) w') (congrArg Value.bool h1)) ?_
    (try simp only [Act.put, Act.eval, Array.getD_eq_getD_getElem?, List.setIfInBounds_toArray, List.set_cons_zero, List.set_cons_succ, List.getElem?_toArray, List.getElem?_cons_zero, List.getElem?_cons_succ, Option.getD_some, List.getElem_toArray, List.getElem_cons_zero, List.getElem_cons_succ])
    refine lex_move rfl rfl (by simp only [Act.eval, Array.getD_eq_getD_getElem?, List.getElem?_toArray, List.getElem?_cons_zero, List.getElem?_cons_succ, Option.getD_some]; rfl) rfl ?_
    (try simp only [Act.put, Act.eval, Array.getD_eq_getD_getElem?, List.setIfInBounds_toArray, List.set_cons_zero, List.set_cons_succ, List.getElem?_toArray, List.getElem?_cons_zero, List.getElem?_cons_succ, Option.getD_some, List.getElem_toArray, List.getElem_cons_zero, List.getElem_cons_succ])
    refine lex_want (by kernel_rfl) ?_
    dsimp only
    refine lex_pure rfl rfl (by intro w'; go_simp; (try go_bits); rfl) ?_
    (try simp only [Act.put, Act.eval, Array.getD_eq_getD_getElem?, List.setIfInBounds_toArray, List.set_cons_zero, List.set_cons_succ, List.getElem?_toArray, List.getElem?_cons_zero, List.getElem?_cons_succ, Option.getD_some, List.getElem_toArray, List.getElem_cons_zero, List.getElem_cons_succ])
    refine lex_want (by kernel_rfl) ?_
    dsimp only
    first | (refine lex_load_0 hL rfl rfl (by kernel_rfl) rfl (by first | rfl | assumption) rfl ?_) | (refine lex_load_1 hL rfl rfl (by kernel_rfl) rfl (by first | rfl | assumption) rfl ?_) | (refine lex_load_2 hL rfl rfl (by kernel_rfl) rfl (by first | rfl | assumption) rfl ?_) | (refine lex_load_3 hL rfl rfl (by kernel_rfl) rfl (by first | rfl | assumption) rfl ?_) | (refine lex_load_4 hL rfl rfl (by kernel_rfl) rfl (by first | rfl | assumption) rfl ?_) | (refine lex_load_5 hL rfl rfl (by kernel_rfl) rfl (by first | rfl | assumption) rfl ?_)
    (try simp only [Act.put, Act.eval, Array.getD_eq_getD_getElem?, List.setIfInBounds_toArray, List.set_cons_zero, List.set_cons_succ, List.getElem?_toArray, List.getElem?_cons_zero, List.getElem?_cons_succ, Option.getD_some, List.getElem_toArray, List.getElem_cons_zero, List.getElem_cons_succ])
    refine lex_want (by kernel_rfl) ?_
    dsimp only
    refine lex_pure rfl rfl (by intro w'; go_simp; (try go_bits); rfl) ?_
    (try simp only [Act.put, Act.eval, Array.getD_eq_getD_getElem?, List.setIfInBounds_toArray, List.set_cons_zero, List.set_cons_succ, List.getElem?_toArray, List.getElem?_cons_zero, List.getElem?_cons_succ, Option.getD_some, List.getElem_toArray, List.getElem_cons_zero, List.getElem_cons_succ])
    refine lex_want (by kernel_rfl) ?_
    dsimp only
    refine lex_move rfl rfl (by simp only [Act.eval, Array.getD_eq_getD_getElem?, List.getElem?_toArray, List.getElem?_cons_zero, List.getElem?_cons_succ, Option.getD_some]; rfl) rfl ?_
    (try simp only [Act.put, Act.eval, Array.getD_eq_getD_getElem?, List.setIfInBounds_toArray, List.set_cons_zero, List.set_cons_succ, List.getElem?_toArray, List.getElem?_cons_zero, List.getElem?_cons_succ, Option.getD_some, List.getElem_toArray, List.getElem_cons_zero, List.getElem_cons_succ])
    refine lex_want (by kernel_rfl) ?_
    dsimp only
    refine lex_pure rfl rfl (by intro w'; go_simp; (try go_bits); rfl) ?_
    (try simp only [Act.put, Act.eval, Array.getD_eq_getD_getElem?, List.setIfInBounds_toArray, List.set_cons_zero, List.set_cons_succ, List.getElem?_toArray, List.getElem?_cons_zero, List.getElem?_cons_succ, Option.getD_some, List.getElem_toArray, List.getElem_cons_zero, List.getElem_cons_succ])
    refine lex_want (by kernel_rfl) ?_
    dsimp only
    refine lex_pure rfl rfl (by intro w'; go_simp; (try go_bits); rfl) ?_
    (try simp only [Act.put, Act.eval, Array.getD_eq_getD_getElem?, List.setIfInBounds_toArray, List.set_cons_zero, List.set_cons_succ, List.getElem?_toArray, List.getElem?_cons_zero, List.getElem?_cons_succ, Option.getD_some, List.getElem_toArray, List.getElem_cons_zero, List.getElem_cons_succ])
    refine lex_want (by kernel_rfl) ?_
    dsimp only
    first | (refine lex_load_0 hL rfl rfl (by kernel_rfl) rfl (by first | rfl | assumption) rfl ?_) | (refine lex_load_1 hL rfl rfl (by kernel_rfl) rfl (by first | rfl | assumption) rfl ?_) | (refine lex_load_2 hL rfl rfl (by kernel_rfl) rfl (by first | rfl | assumption) rfl ?_) | (refine lex_load_3 hL rfl rfl (by kernel_rfl) rfl (by first | rfl | assumption) rfl ?_) | (refine lex_load_4 hL rfl rfl (by kernel_rfl) rfl (by first | rfl | assumption) rfl ?_) | (refine lex_load_5 hL rfl rfl (by kernel_rfl) rfl (by first | rfl | assumption) rfl ?_)
    (try simp only [Act.put, Act.eval, Array.getD_eq_getD_getElem?, List.setIfInBounds_toArray, List.set_cons_zero, List.set_cons_succ, List.getElem?_toArray, List.getElem?_cons_zero, List.getElem?_cons_succ, Option.getD_some, List.getElem_toArray, List.getElem_cons_zero, List.getElem_cons_succ])
    refine lex_want (by kernel_rfl) ?_
    dsimp only
    refine lex_pure rfl rfl (by intro w'; go_simp; (try go_bits); rfl) ?_
    (try simp only [Act.put, Act.eval, Array.getD_eq_getD_getElem?, List.setIfInBounds_toArray, List.set_cons_zero, List.set_cons_succ, List.getElem?_toArray, List.getElem?_cons_zero, List.getElem?_cons_succ, Option.getD_some, List.getElem_toArray, List.getElem_cons_zero, List.getElem_cons_succ])
    refine lex_want (by kernel_rfl) ?_
    dsimp only
    refine lex_pure rfl rfl (by intro w'; go_simp; (try go_bits); rfl) ?_
    (try simp only [Act.put, Act.eval, Array.getD_eq_getD_getElem?, List.setIfInBounds_toArray, List.set_cons_zero, List.set_cons_succ, List.getElem?_toArray, List.getElem?_cons_zero, List.getElem?_cons_succ, Option.getD_some, List.getElem_toArray, List.getElem_cons_zero, List.getElem_cons_succ])
    refine lex_want (by kernel_rfl) ?_
    dsimp only
    refine lex_call Try.func46 (by kernel_rfl) rfl rfl rfl (by simp only [List.map_toArray, List.map_cons, List.map_nil, Act.eval, Array.getD_eq_getD_getElem?, List.getElem?_toArray, List.getElem?_cons_zero, List.getElem?_cons_succ, Option.getD_some]; try rfl) rfl (fun w' hb => to_below (l00In_any y 0 (p 1 - 1) w') rfl) ?_
    (try simp only [Act.put, Act.eval, Array.getD_eq_getD_getElem?, List.setIfInBounds_toArray, List.set_cons_zero, List.set_cons_succ, List.getElem?_toArray, List.getElem?_cons_zero, List.getElem?_cons_succ, Option.getD_some, List.getElem_toArray, List.getElem_cons_zero, List.getElem_cons_succ])
    refine lex_pure rfl rfl (by intro w'; go_simp; (try go_bits); rfl) ?_
    (try simp only [Act.put, Act.eval, Array.getD_eq_getD_getElem?, List.setIfInBounds_toArray, List.set_cons_zero, List.set_cons_succ, List.getElem?_toArray, List.getElem?_cons_zero, List.getElem?_cons_succ, Option.getD_some, List.getElem_toArray, List.getElem_cons_zero, List.getElem_cons_succ])
    refine lex_assign rfl rfl (by simp only [Act.eval, Array.getD_eq_getD_getElem?, List.getElem?_toArray, List.getElem?_cons_zero, List.getElem?_cons_succ, Option.getD_some]; rfl) rfl ?_
    (try simp only [Act.put, Act.eval, Array.getD_eq_getD_getElem?, List.setIfInBounds_toArray, List.set_cons_zero, List.set_cons_succ, List.getElem?_toArray, List.getElem?_cons_zero, List.getElem?_cons_succ, Option.getD_some, List.getElem_toArray, List.getElem_cons_zero, List.getElem_cons_succ])
    refine lex_nil ?_
    intro wc hH
    replace hL := hL.ext hH.below
    clear hH
    go_wp2
    go_ret
    exact ⟨rfl, hL.toBelow1 hg (hL.at_ (i := 1) rfl)⟩
end Go.Proofs.Ytnafnhpajkhgkaa
