import Derived.Test.YtnfdefeafhepkaaQI20
set_option linter.unusedVariables false
set_option linter.unusedSimpArgs false
namespace Go.Proofs.Ytnfdefeafhepkaa
open Go.RowKit Mem
attribute [local irreducible] Calm.wpLex
def CellsAt (w : World) (b off : Nat) (c : List Value) : Prop := ∀ (j : Nat) (u : Value), c[j]? = some u → w.cell? ⟨b, off + j, none⟩ = some u
theorem CellsAt.below {w w' : World} {b off : Nat} {c : List Value} (h : CellsAt w b off c) (hb : Below w.heap.size w w') : CellsAt w' b off c := fun j u hu => by
  rw [hb.cell (p := ⟨b, off + j, none⟩) (World.block_lt_of_cell? w _ (h j u hu))]; exact h j u hu
theorem CellsAt.part {w : World} {b off : Nat} {c : List Value} (h : CellsAt w b off c) (k : Nat) {d : List Value} (hd : ∀ (j : Nat) (u : Value), d[j]? = some u → c[k + j]? = some u) : CellsAt w b (off + k) d := fun j u hu => by
  rw [Nat.add_assoc]; exact h _ _ (hd j u hu)
theorem Gt.at_ (g : Gt) : ∀ (j : Nat) (u : Value), (Sp.mk g.x g.y).cells[j]? = some u → g.cells[0 + j]? = some u := fun j u hu => by
  rcases j with _ | _ | j
  · exact hu
  · exact hu
  · cases hu
theorem Gt.stake_ (g : Gt) : ∀ (j : Nat) (u : Value), (Sp.mk g.u g.v).cells[j]? = some u → g.cells[2 + j]? = some u := fun j u hu => by
  rcases j with _ | _ | j
  · exact hu
  · exact hu
  · cases hu

def sqA (a b c d : Int) : Int := (a - c) * (a - c) + (b - d) * (b - d)
def tied (g : Gt) : Bool := decide (0 ≤ g.rope) || (decide (g.u = 0) && decide (g.v = 0))
def plainG (g : Gt) : Bool := inB g.rope (-1) 200 && (inB g.eats 0 100 && (inB g.likes 0 1 && tied g))
def nearG (g : Gt) : Bool := decide (g.rope < 0) || decide (sqA g.u g.v g.x g.y ≤ g.rope)
def goatOk (p : Nat → Int) (g : Gt) : Bool := isC (p 0) (p 1) g.x g.y && (isC (p 0) (p 1) g.u g.v && (plainG g && nearG g))

set_option maxRecDepth 100000 in
set_option maxHeartbeats 2000000 in
theorem isGoat_raw (x y u v rope eats likes : Int) (w : World) (hg : (Gt.mk x y u v rope eats likes).ok) :
    Calls Try.prog 79 #[.agg #[.int .i8 x, .int .i8 y, .int .i8 u, .int .i8 v, .int .i16 rope, .int .i16 eats, .int .i8 likes]] w fun e w' => e = .returned (.bool (plainG ⟨x, y, u, v, rope, eats, likes⟩)) ∧ Below w.heap.size w w' := by
  have hL := Own.start w
  obtain ⟨⟨h1, h2, h3, h4⟩, ⟨h5, h6, h7, h8⟩, ⟨h9, h10⟩, ⟨h11, h12⟩, h13, h14⟩ := hg
  simp only at h1 h2 h3 h4 h5 h6 h7 h8 h9 h10 h11 h12 h13 h14
  obtain ⟨c1, e1⟩ : ∃ c, inB rope (-1) 200 = c := ⟨_, rfl⟩
  obtain ⟨c2, e2⟩ : ∃ c, inB eats 0 100 = c := ⟨_, rfl⟩
  obtain ⟨c3, e3⟩ : ∃ c, inB likes 0 1 = c := ⟨_, rfl⟩
  have HV : Hid (plainG ⟨x, y, u, v, rope, eats, likes⟩ = (c1 && (c2 && (c3 && tied ⟨x, y, u, v, rope, eats, likes⟩)))) := by show plainG _ = _; unfold plainG; simp only [e1, e2, e3]
  by_cases hr : rope = -1
  · subst hr
    by_cases hu : u = 0
    · subst hu
      by_cases hv : v = 0
      · subst hv
        have HT : Hid (tied ⟨x, y, 0, 0, -1, eats, likes⟩ = true) := (by rfl : tied ⟨x, y, 0, 0, -1, eats, likes⟩ = true)
        go_enter Try.func79, Try.ntmps79
        go_wp2_with (first
          | ((with_reducible refine gate_dst (N := 1) rfl ?_); refine wpl_box (cs := #[.int .i8 x, .int .i8 y, .int .i8 0, .int .i8 0, .int .i16 (-1), .int .i16 eats, .int .i8 likes]) hL rfl rfl rfl ?_; clear hL; intro g1 w1 hL)
          | ((with_reducible refine gate_load rfl ?_); (refine wpl_ungate ?hw ?_); (case hw => (simp [Region.wanted, yielded]; done)))
          | ((with_reducible refine gate_load (ty := 66) rfl ?_); refine wpl_loadN_0 (off := 2) (vs := #[.int .i8 0, .int .i8 0]) hL 2 rfl rfl (by kernel_rfl) (by kernel_rfl) rfl (by simp) rfl ?_)
          | ((with_reducible refine gate_load rfl ?_); first | (refine wpl_load_0 hL rfl rfl (by kernel_rfl) rfl (by first | rfl | assumption) ?_))
          | (go_at_call 88; first
            | ((with_reducible refine (within_any (-1) (-1) 200 _).mono ?_); rintro e w4 ⟨rfl, rfl⟩; rw [e1]; cases c1)
            | ((with_reducible refine (within_any eats 0 100 _).mono ?_); rintro e w4 ⟨rfl, rfl⟩; rw [e2]; cases c2)
            | ((with_reducible refine (within_any likes 0 1 _).mono ?_); rintro e w4 ⟨rfl, rfl⟩; rw [e3]; cases c3)))
        all_goals (go_ret; exact ⟨by rw [HV.out]; rw [HT.out]; rfl, hL.toBelow⟩)
      · have HT : Hid (tied ⟨x, y, 0, v, -1, eats, likes⟩ = false) := by show tied _ = false; simp [tied, hv]
        go_enter Try.func79, Try.ntmps79
        go_wp2_with (first
          | ((with_reducible refine gate_dst (N := 1) rfl ?_); refine wpl_box (cs := #[.int .i8 x, .int .i8 y, .int .i8 0, .int .i8 v, .int .i16 (-1), .int .i16 eats, .int .i8 likes]) hL rfl rfl rfl ?_; clear hL; intro g1 w1 hL)
          | ((with_reducible refine gate_load rfl ?_); (refine wpl_ungate ?hw ?_); (case hw => (simp [Region.wanted, yielded]; done)))
          | ((with_reducible refine gate_load (ty := 66) rfl ?_); refine wpl_loadN_0 (off := 2) (vs := #[.int .i8 0, .int .i8 v]) hL 2 rfl rfl (by kernel_rfl) (by kernel_rfl) rfl (by simp) rfl ?_)
          | ((with_reducible refine gate_load rfl ?_); first | (refine wpl_load_0 hL rfl rfl (by kernel_rfl) rfl (by first | rfl | assumption) ?_))
          | (go_at_call 88; first
            | ((with_reducible refine (within_any (-1) (-1) 200 _).mono ?_); rintro e w4 ⟨rfl, rfl⟩; rw [e1]; cases c1)
            | ((with_reducible refine (within_any eats 0 100 _).mono ?_); rintro e w4 ⟨rfl, rfl⟩; rw [e2]; cases c2)
            | ((with_reducible refine (within_any likes 0 1 _).mono ?_); rintro e w4 ⟨rfl, rfl⟩; rw [e3]; cases c3)))
        all_goals (go_ret; exact ⟨by rw [HV.out]; rw [HT.out]; rfl, hL.toBelow⟩)
    · have HT : Hid (tied ⟨x, y, u, v, -1, eats, likes⟩ = false) := by show tied _ = false; simp [tied, hu]
      go_enter Try.func79, Try.ntmps79
      go_wp2_with (first
        | ((with_reducible refine gate_dst (N := 1) rfl ?_); refine wpl_box (cs := #[.int .i8 x, .int .i8 y, .int .i8 u, .int .i8 v, .int .i16 (-1), .int .i16 eats, .int .i8 likes]) hL rfl rfl rfl ?_; clear hL; intro g1 w1 hL)
        | ((with_reducible refine gate_load rfl ?_); (refine wpl_ungate ?hw ?_); (case hw => (simp [Region.wanted, yielded]; done)))
        | ((with_reducible refine gate_load (ty := 66) rfl ?_); refine wpl_loadN_0 (off := 2) (vs := #[.int .i8 u, .int .i8 v]) hL 2 rfl rfl (by kernel_rfl) (by kernel_rfl) rfl (by simp) rfl ?_)
        | ((with_reducible refine gate_load rfl ?_); first | (refine wpl_load_0 hL rfl rfl (by kernel_rfl) rfl (by first | rfl | assumption) ?_))
        | (go_at_call 88; first
          | ((with_reducible refine (within_any (-1) (-1) 200 _).mono ?_); rintro e w4 ⟨rfl, rfl⟩; rw [e1]; cases c1)
          | ((with_reducible refine (within_any eats 0 100 _).mono ?_); rintro e w4 ⟨rfl, rfl⟩; rw [e2]; cases c2)
          | ((with_reducible refine (within_any likes 0 1 _).mono ?_); rintro e w4 ⟨rfl, rfl⟩; rw [e3]; cases c3)))
      all_goals (go_ret; exact ⟨by rw [HV.out]; rw [HT.out]; rfl, hL.toBelow⟩)
  · have HE1 := Lib.hid e1
    have HT : Hid (c1 = true → tied ⟨x, y, u, v, rope, eats, likes⟩ = true) := fun h => by
      have := HE1.out
      rw [h] at this
      simp [inB] at this
      simp [tied]; left; omega
    go_enter Try.func79, Try.ntmps79
    go_wp2_with (first
      | ((with_reducible refine gate_dst (N := 1) rfl ?_); refine wpl_box (cs := #[.int .i8 x, .int .i8 y, .int .i8 u, .int .i8 v, .int .i16 rope, .int .i16 eats, .int .i8 likes]) hL rfl rfl rfl ?_; clear hL; intro g1 w1 hL)
      | ((with_reducible refine gate_load rfl ?_); (refine wpl_ungate ?hw ?_); (case hw => (simp [Region.wanted, yielded]; done)))
      | ((with_reducible refine gate_load (ty := 66) rfl ?_); refine wpl_loadN_0 (off := 2) (vs := #[.int .i8 u, .int .i8 v]) hL 2 rfl rfl (by kernel_rfl) (by kernel_rfl) rfl (by simp) rfl ?_)
      | ((with_reducible refine gate_load rfl ?_); first | (refine wpl_load_0 hL rfl rfl (by kernel_rfl) rfl (by first | rfl | assumption) ?_))
      | (go_at_call 88; first
        | ((with_reducible refine (within_any rope (-1) 200 _).mono ?_); rintro e w4 ⟨rfl, rfl⟩; rw [e1]; cases c1)
        | ((with_reducible refine (within_any eats 0 100 _).mono ?_); rintro e w4 ⟨rfl, rfl⟩; rw [e2]; cases c2)
        | ((with_reducible refine (within_any likes 0 1 _).mono ?_); rintro e w4 ⟨rfl, rfl⟩; rw [e3]; cases c3)))
    all_goals (go_ret; exact ⟨by rw [HV.out]; first | rfl | (rw [HT.out rfl]; rfl) | (rw [HT.out trivial]; rfl), hL.toBelow⟩)
def nearI (g : Gt) (a b : Int) : Bool := decide (g.rope = -1) || decide (sqA g.u g.v a b ≤ g.rope)
set_option maxRecDepth 100000 in
set_option maxHeartbeats 2000000 in
theorem reaches_raw (x y u v rope eats likes a b : Int) (w : World) (hg : (Gt.mk x y u v rope eats likes).ok) (hab : (Sp.mk a b).ok) :
    Calls Try.prog 80 #[.agg #[.int .i8 x, .int .i8 y, .int .i8 u, .int .i8 v, .int .i16 rope, .int .i16 eats, .int .i8 likes], .agg #[.int .i8 a, .int .i8 b]] w fun e w' => e = .returned (.bool (nearI ⟨x, y, u, v, rope, eats, likes⟩ a b)) ∧ Below w.heap.size w w' := by
  have hL := Own.start w
  have HUV : Hid (Sp.mk u v).ok := hg.2.1
  have HAB := Lib.hid hab
  have hr1 : -32768 ≤ rope := hg.2.2.1.1
  have hr2 : rope ≤ 32767 := hg.2.2.1.2
  by_cases hr : rope = -1
  · subst hr
    have HV : Hid (nearI ⟨x, y, u, v, -1, eats, likes⟩ a b = true) := by show nearI _ _ _ = true; simp [nearI]
    go_enter Try.func80, Try.ntmps80
    go_wp2_with (first
      | ((with_reducible refine gate_dst (N := 2) rfl ?_); refine wpl_box (cs := #[.int .i8 x, .int .i8 y, .int .i8 u, .int .i8 v, .int .i16 (-1), .int .i16 eats, .int .i8 likes]) hL rfl rfl rfl ?_; clear hL; intro g2 w2 hL)
      | ((with_reducible refine gate_dst (N := 3) rfl ?_); refine wpl_box (cs := #[.int .i8 a, .int .i8 b]) hL rfl rfl rfl ?_; clear hL; intro g3 w3 hL))
    refine' Calm.wp_region_calm_lit [.inl _, .inl _, .inl (.bool true), .inl _, .inl undef, .inl undef, .inl undef, .inl undef, .inl undef, .inl undef, .inl undef, .inl undef, .inl _, .inl _] (by kernel_rfl) (by kernel_rfl) (by kernel_rfl) ?_
    rotate_left 5
    refine lex_pure rfl rfl (by intro w'; go_simp; (try go_bits); rfl) ?_
    (try simp only [Act.put, Act.eval, Array.getD_eq_getD_getElem?, List.setIfInBounds_toArray, List.set_cons_zero, List.set_cons_succ, List.getElem?_toArray, List.getElem?_cons_zero, List.getElem?_cons_succ, Option.getD_some, List.getElem_toArray, List.getElem_cons_zero, List.getElem_cons_succ])
    first | (refine lex_load_0 hL rfl rfl (by kernel_rfl) rfl (by first | rfl | assumption) rfl ?_) | (refine lex_load_1 hL rfl rfl (by kernel_rfl) rfl (by first | rfl | assumption) rfl ?_) | (refine lex_load_2 hL rfl rfl (by kernel_rfl) rfl (by first | rfl | assumption) rfl ?_) | (refine lex_load_3 hL rfl rfl (by kernel_rfl) rfl (by first | rfl | assumption) rfl ?_) | (refine lex_load_4 hL rfl rfl (by kernel_rfl) rfl (by first | rfl | assumption) rfl ?_) | (refine lex_load_5 hL rfl rfl (by kernel_rfl) rfl (by first | rfl | assumption) rfl ?_)
    (try simp only [Act.put, Act.eval, Array.getD_eq_getD_getElem?, List.setIfInBounds_toArray, List.set_cons_zero, List.set_cons_succ, List.getElem?_toArray, List.getElem?_cons_zero, List.getElem?_cons_succ, Option.getD_some, List.getElem_toArray, List.getElem_cons_zero, List.getElem_cons_succ])
    refine lex_pure rfl rfl (by intro w'; (go_simp <;> simp)) ?_
    (try simp only [Act.put, Act.eval, Array.getD_eq_getD_getElem?, List.setIfInBounds_toArray, List.set_cons_zero, List.set_cons_succ, List.getElem?_toArray, List.getElem?_cons_zero, List.getElem?_cons_succ, Option.getD_some, List.getElem_toArray, List.getElem_cons_zero, List.getElem_cons_succ])
    refine lex_move rfl rfl (by simp only [Act.eval, Array.getD_eq_getD_getElem?, List.getElem?_toArray, List.getElem?_cons_zero, List.getElem?_cons_succ, Option.getD_some]; rfl) rfl ?_
    (try simp only [Act.put, Act.eval, Array.getD_eq_getD_getElem?, List.setIfInBounds_toArray, List.set_cons_zero, List.set_cons_succ, List.getElem?_toArray, List.getElem?_cons_zero, List.getElem?_cons_succ, Option.getD_some, List.getElem_toArray, List.getElem_cons_zero, List.getElem_cons_succ])
    refine lex_skip (by kernel_rfl) ?_
    (try simp only [Act.put, Act.eval, Array.getD_eq_getD_getElem?, List.setIfInBounds_toArray, List.set_cons_zero, List.set_cons_succ, List.getElem?_toArray, List.getElem?_cons_zero, List.getElem?_cons_succ, Option.getD_some, List.getElem_toArray, List.getElem_cons_zero, List.getElem_cons_succ])
    refine lex_skip (by kernel_rfl) ?_
    (try simp only [Act.put, Act.eval, Array.getD_eq_getD_getElem?, List.setIfInBounds_toArray, List.set_cons_zero, List.set_cons_succ, List.getElem?_toArray, List.getElem?_cons_zero, List.getElem?_cons_succ, Option.getD_some, List.getElem_toArray, List.getElem_cons_zero, List.getElem_cons_succ])
    refine lex_skip (by kernel_rfl) ?_
    (try simp only [Act.put, Act.eval, Array.getD_eq_getD_getElem?, List.setIfInBounds_toArray, List.set_cons_zero, List.set_cons_succ, List.getElem?_toArray, List.getElem?_cons_zero, List.getElem?_cons_succ, Option.getD_some, List.getElem_toArray, List.getElem_cons_zero, List.getElem_cons_succ])
    refine lex_skip (by kernel_rfl) ?_
    (try simp only [Act.put, Act.eval, Array.getD_eq_getD_getElem?, List.setIfInBounds_toArray, List.set_cons_zero, List.set_cons_succ, List.getElem?_toArray, List.getElem?_cons_zero, List.getElem?_cons_succ, Option.getD_some, List.getElem_toArray, List.getElem_cons_zero, List.getElem_cons_succ])
    refine lex_skip (by kernel_rfl) ?_
    (try simp only [Act.put, Act.eval, Array.getD_eq_getD_getElem?, List.setIfInBounds_toArray, List.set_cons_zero, List.set_cons_succ, List.getElem?_toArray, List.getElem?_cons_zero, List.getElem?_cons_succ, Option.getD_some, List.getElem_toArray, List.getElem_cons_zero, List.getElem_cons_succ])
    refine lex_skip (by kernel_rfl) ?_
    (try simp only [Act.put, Act.eval, Array.getD_eq_getD_getElem?, List.setIfInBounds_toArray, List.set_cons_zero, List.set_cons_succ, List.getElem?_toArray, List.getElem?_cons_zero, List.getElem?_cons_succ, Option.getD_some, List.getElem_toArray, List.getElem_cons_zero, List.getElem_cons_succ])
    refine lex_skip (by kernel_rfl) ?_
    (try simp only [Act.put, Act.eval, Array.getD_eq_getD_getElem?, List.setIfInBounds_toArray, List.set_cons_zero, List.set_cons_succ, List.getElem?_toArray, List.getElem?_cons_zero, List.getElem?_cons_succ, Option.getD_some, List.getElem_toArray, List.getElem_cons_zero, List.getElem_cons_succ])
    refine lex_skip (by kernel_rfl) ?_
    (try simp only [Act.put, Act.eval, Array.getD_eq_getD_getElem?, List.setIfInBounds_toArray, List.set_cons_zero, List.set_cons_succ, List.getElem?_toArray, List.getElem?_cons_zero, List.getElem?_cons_succ, Option.getD_some, List.getElem_toArray, List.getElem_cons_zero, List.getElem_cons_succ])
    refine lex_pure rfl rfl (by intro w'; go_simp; (try go_bits); rfl) ?_
    (try simp only [Act.put, Act.eval, Array.getD_eq_getD_getElem?, List.setIfInBounds_toArray, List.set_cons_zero, List.set_cons_succ, List.getElem?_toArray, List.getElem?_cons_zero, List.getElem?_cons_succ, Option.getD_some, List.getElem_toArray, List.getElem_cons_zero, List.getElem_cons_succ])
    refine lex_assign rfl rfl (by simp only [Act.eval, Array.getD_eq_getD_getElem?, List.getElem?_toArray, List.getElem?_cons_zero, List.getElem?_cons_succ, Option.getD_some]; rfl) rfl ?_
    (try simp only [Act.put, Act.eval, Array.getD_eq_getD_getElem?, List.setIfInBounds_toArray, List.set_cons_zero, List.set_cons_succ, List.getElem?_toArray, List.getElem?_cons_zero, List.getElem?_cons_succ, Option.getD_some, List.getElem_toArray, List.getElem_cons_zero, List.getElem_cons_succ])
    refine lex_nil ?_
    intro wc hH
    replace hL := hL.ext hH.below
    clear hH
    go_wp2
    go_ret
    exact ⟨by rw [HV.out]; rfl, hL.toBelow⟩
  · have HV : Hid (nearI ⟨x, y, u, v, rope, eats, likes⟩ a b = decide (sqOf ⟨u, v⟩ ⟨a, b⟩ ≤ rope)) := by show nearI _ _ _ = _; rw [show nearI ⟨x, y, u, v, rope, eats, likes⟩ a b = (decide (rope = -1) || decide (sqOf ⟨u, v⟩ ⟨a, b⟩ ≤ rope)) from rfl, decide_eq_false hr, Bool.false_or]
    go_enter Try.func80, Try.ntmps80
    go_wp2_with (first
      | ((with_reducible refine gate_dst (N := 2) rfl ?_); refine wpl_box (cs := #[.int .i8 x, .int .i8 y, .int .i8 u, .int .i8 v, .int .i16 rope, .int .i16 eats, .int .i8 likes]) hL rfl rfl rfl ?_; clear hL; intro g2 w2 hL)
      | ((with_reducible refine gate_dst (N := 3) rfl ?_); refine wpl_box (cs := #[.int .i8 a, .int .i8 b]) hL rfl rfl rfl ?_; clear hL; intro g3 w3 hL))
    refine' Calm.wp_region_calm_lit [.inl _, .inl _, .inl (.bool false), .inl _, .inl _, .inl (.agg #[.int .i8 u, .int .i8 v]), .inl _, .inl (.int .i64 (sqOf ⟨u, v⟩ ⟨a, b⟩)), .inl _, .inl _, .inl _, .inl _, .inl _, .inl _] (by kernel_rfl) (by kernel_rfl) (by kernel_rfl) ?_
    rotate_left 11
    refine lex_pure rfl rfl (by intro w'; go_simp; (try go_bits); rfl) ?_
    (try simp only [Act.put, Act.eval, Array.getD_eq_getD_getElem?, List.setIfInBounds_toArray, List.set_cons_zero, List.set_cons_succ, List.getElem?_toArray, List.getElem?_cons_zero, List.getElem?_cons_succ, Option.getD_some, List.getElem_toArray, List.getElem_cons_zero, List.getElem_cons_succ])
    first | (refine lex_load_0 hL rfl rfl (by kernel_rfl) rfl (by first | rfl | assumption) rfl ?_) | (refine lex_load_1 hL rfl rfl (by kernel_rfl) rfl (by first | rfl | assumption) rfl ?_) | (refine lex_load_2 hL rfl rfl (by kernel_rfl) rfl (by first | rfl | assumption) rfl ?_) | (refine lex_load_3 hL rfl rfl (by kernel_rfl) rfl (by first | rfl | assumption) rfl ?_) | (refine lex_load_4 hL rfl rfl (by kernel_rfl) rfl (by first | rfl | assumption) rfl ?_) | (refine lex_load_5 hL rfl rfl (by kernel_rfl) rfl (by first | rfl | assumption) rfl ?_)
    (try simp only [Act.put, Act.eval, Array.getD_eq_getD_getElem?, List.setIfInBounds_toArray, List.set_cons_zero, List.set_cons_succ, List.getElem?_toArray, List.getElem?_cons_zero, List.getElem?_cons_succ, Option.getD_some, List.getElem_toArray, List.getElem_cons_zero, List.getElem_cons_succ])
    refine lex_pure rfl rfl (by intro w'; (go_simp <;> simp [hr])) ?_
    (try simp only [Act.put, Act.eval, Array.getD_eq_getD_getElem?, List.setIfInBounds_toArray, List.set_cons_zero, List.set_cons_succ, List.getElem?_toArray, List.getElem?_cons_zero, List.getElem?_cons_succ, Option.getD_some, List.getElem_toArray, List.getElem_cons_zero, List.getElem_cons_succ])
    refine lex_move rfl rfl (by simp only [Act.eval, Array.getD_eq_getD_getElem?, List.getElem?_toArray, List.getElem?_cons_zero, List.getElem?_cons_succ, Option.getD_some]; rfl) rfl ?_
    (try simp only [Act.put, Act.eval, Array.getD_eq_getD_getElem?, List.setIfInBounds_toArray, List.set_cons_zero, List.set_cons_succ, List.getElem?_toArray, List.getElem?_cons_zero, List.getElem?_cons_succ, Option.getD_some, List.getElem_toArray, List.getElem_cons_zero, List.getElem_cons_succ])
    refine lex_want (by kernel_rfl) ?_
    dsimp only
    refine lex_pure rfl rfl (by intro w'; go_simp; (try go_bits); rfl) ?_
    (try simp only [Act.put, Act.eval, Array.getD_eq_getD_getElem?, List.setIfInBounds_toArray, List.set_cons_zero, List.set_cons_succ, List.getElem?_toArray, List.getElem?_cons_zero, List.getElem?_cons_succ, Option.getD_some, List.getElem_toArray, List.getElem_cons_zero, List.getElem_cons_succ])
    refine lex_want (by kernel_rfl) ?_
    dsimp only
    refine lex_loadN_1 hL 2 rfl rfl (by kernel_rfl) (by kernel_rfl) (off := 2) rfl (by simp) (vs := #[.int .i8 u, .int .i8 v]) rfl rfl rfl ?_
    (try simp only [Act.put, Act.eval, Array.getD_eq_getD_getElem?, List.setIfInBounds_toArray, List.set_cons_zero, List.set_cons_succ, List.getElem?_toArray, List.getElem?_cons_zero, List.getElem?_cons_succ, Option.getD_some, List.getElem_toArray, List.getElem_cons_zero, List.getElem_cons_succ])
    refine lex_want (by kernel_rfl) ?_
    dsimp only
    first | (refine lex_loadW_0 hL rfl rfl (by kernel_rfl) rfl (by first | exact zr_size _ _ | assumption | rfl) (by kernel_rfl) (by rfl) rfl ?_) | (refine lex_loadW_1 hL rfl rfl (by kernel_rfl) rfl (by first | exact zr_size _ _ | assumption | rfl) (by kernel_rfl) (by rfl) rfl ?_) | (refine lex_loadW_2 hL rfl rfl (by kernel_rfl) rfl (by first | exact zr_size _ _ | assumption | rfl) (by kernel_rfl) (by rfl) rfl ?_) | (refine lex_loadW_3 hL rfl rfl (by kernel_rfl) rfl (by first | exact zr_size _ _ | assumption | rfl) (by kernel_rfl) (by rfl) rfl ?_) | (refine lex_loadW_4 hL rfl rfl (by kernel_rfl) rfl (by first | exact zr_size _ _ | assumption | rfl) (by kernel_rfl) (by rfl) rfl ?_) | (refine lex_loadW_5 hL rfl rfl (by kernel_rfl) rfl (by first | exact zr_size _ _ | assumption | rfl) (by kernel_rfl) (by rfl) rfl ?_)
    (try simp only [Act.put, Act.eval, Array.getD_eq_getD_getElem?, List.setIfInBounds_toArray, List.set_cons_zero, List.set_cons_succ, List.getElem?_toArray, List.getElem?_cons_zero, List.getElem?_cons_succ, Option.getD_some, List.getElem_toArray, List.getElem_cons_zero, List.getElem_cons_succ])
    refine lex_want (by kernel_rfl) ?_
    dsimp only
    refine lex_call Try.func127 (by kernel_rfl) rfl rfl rfl (by simp only [List.map_toArray, List.map_cons, List.map_nil, Act.eval, Array.getD_eq_getD_getElem?, List.getElem?_toArray, List.getElem?_cons_zero, List.getElem?_cons_succ, Option.getD_some]; try rfl) rfl (fun w' hb => implSquareOf_any ⟨u, v⟩ ⟨a, b⟩ _ HUV.out HAB.out) ?_
    (try simp only [Act.put, Act.eval, Array.getD_eq_getD_getElem?, List.setIfInBounds_toArray, List.set_cons_zero, List.set_cons_succ, List.getElem?_toArray, List.getElem?_cons_zero, List.getElem?_cons_succ, Option.getD_some, List.getElem_toArray, List.getElem_cons_zero, List.getElem_cons_succ])
    refine lex_want (by kernel_rfl) ?_
    dsimp only
    refine lex_pure rfl rfl (by intro w'; go_simp; (try go_bits); rfl) ?_
    (try simp only [Act.put, Act.eval, Array.getD_eq_getD_getElem?, List.setIfInBounds_toArray, List.set_cons_zero, List.set_cons_succ, List.getElem?_toArray, List.getElem?_cons_zero, List.getElem?_cons_succ, Option.getD_some, List.getElem_toArray, List.getElem_cons_zero, List.getElem_cons_succ])
    refine lex_want (by kernel_rfl) ?_
    dsimp only
    first | (refine lex_load_0 hL rfl rfl (by kernel_rfl) rfl (by first | rfl | assumption) rfl ?_) | (refine lex_load_1 hL rfl rfl (by kernel_rfl) rfl (by first | rfl | assumption) rfl ?_) | (refine lex_load_2 hL rfl rfl (by kernel_rfl) rfl (by first | rfl | assumption) rfl ?_) | (refine lex_load_3 hL rfl rfl (by kernel_rfl) rfl (by first | rfl | assumption) rfl ?_) | (refine lex_load_4 hL rfl rfl (by kernel_rfl) rfl (by first | rfl | assumption) rfl ?_) | (refine lex_load_5 hL rfl rfl (by kernel_rfl) rfl (by first | rfl | assumption) rfl ?_)
    (try simp only [Act.put, Act.eval, Array.getD_eq_getD_getElem?, List.setIfInBounds_toArray, List.set_cons_zero, List.set_cons_succ, List.getElem?_toArray, List.getElem?_cons_zero, List.getElem?_cons_succ, Option.getD_some, List.getElem_toArray, List.getElem_cons_zero, List.getElem_cons_succ])
    refine lex_want (by kernel_rfl) ?_
    dsimp only
    refine lex_pure rfl rfl (by intro w'; go_simp; (try go_bits); rfl) ?_
    (try simp only [Act.put, Act.eval, Array.getD_eq_getD_getElem?, List.setIfInBounds_toArray, List.set_cons_zero, List.set_cons_succ, List.getElem?_toArray, List.getElem?_cons_zero, List.getElem?_cons_succ, Option.getD_some, List.getElem_toArray, List.getElem_cons_zero, List.getElem_cons_succ])
    refine lex_want (by kernel_rfl) ?_
    dsimp only
    refine lex_pure rfl rfl (by intro w'; go_simp; (try go_bits); rfl) ?_
    (try simp only [Act.put, Act.eval, Array.getD_eq_getD_getElem?, List.setIfInBounds_toArray, List.set_cons_zero, List.set_cons_succ, List.getElem?_toArray, List.getElem?_cons_zero, List.getElem?_cons_succ, Option.getD_some, List.getElem_toArray, List.getElem_cons_zero, List.getElem_cons_succ])
    refine lex_pure rfl rfl (by intro w'; go_simp; (try go_bits); rfl) ?_
    (try simp only [Act.put, Act.eval, Array.getD_eq_getD_getElem?, List.setIfInBounds_toArray, List.set_cons_zero, List.set_cons_succ, List.getElem?_toArray, List.getElem?_cons_zero, List.getElem?_cons_succ, Option.getD_some, List.getElem_toArray, List.getElem_cons_zero, List.getElem_cons_succ])
    refine lex_assign rfl rfl (by simp only [Act.eval, Array.getD_eq_getD_getElem?, List.getElem?_toArray, List.getElem?_cons_zero, List.getElem?_cons_succ, Option.getD_some]; rfl) rfl ?_
    (try simp only [Act.put, Act.eval, Array.getD_eq_getD_getElem?, List.setIfInBounds_toArray, List.set_cons_zero, List.set_cons_succ, List.getElem?_toArray, List.getElem?_cons_zero, List.getElem?_cons_succ, Option.getD_some, List.getElem_toArray, List.getElem_cons_zero, List.getElem_cons_succ])
    refine lex_nil ?_
    intro wc hH
    replace hL := hL.ext hH.below
    clear hH
    go_wp2
    go_ret
    exact ⟨by rw [HV.out]; rfl, hL.toBelow⟩
theorem near_same {g : Gt} (h : plainG g = true) : nearI g g.x g.y = nearG g := by
  unfold plainG inB at h
  simp at h
  unfold nearI nearG
  have : decide (g.rope = -1) = decide (g.rope < 0) := by
    by_cases e : g.rope = -1
    · simp [e]
    · have : ¬ g.rope < 0 := by omega
      simp [e, this]
  rw [this]
theorem goatOk_near {p : Nat → Int} {g : Gt} : goatOk p g = (isC (p 0) (p 1) g.x g.y && (isC (p 0) (p 1) g.u g.v && (plainG g && nearI g g.x g.y))) := by
  unfold goatOk
  cases h : plainG g
  · rfl
  · rw [near_same h]
set_option maxRecDepth 100000 in
set_option maxHeartbeats 4000000 in
theorem goatClosure_raw (p : Nat → Int) (cs : Array Value) (gp : Nat) (x y u v rope eats likes : Int) (w : World) (hp : Pv p cs) (hw : w.heap[gp]? = some (.cells cs 36 (0, 0))) (hg : (Gt.mk x y u v rope eats likes).ok) :
    Calls Try.prog 77 #[.agg #[.int .i8 x, .int .i8 y, .int .i8 u, .int .i8 v, .int .i16 rope, .int .i16 eats, .int .i8 likes], .pointer (some ⟨gp, 0, none⟩)] w fun e w' => e = .returned (.bool (!(goatOk p ⟨x, y, u, v, rope, eats, likes⟩))) ∧ Below w.heap.size w w' := by
  have hL := Own.startAt w hw
  have HP := Lib.hid hp
  have HW := Lib.hid hw
  have HG := Lib.hid hg
  have HA : Hid (Sp.mk x y).ok := hg.1
  have HU : Hid (Sp.mk u v).ok := hg.2.1
  have hsz := hp.size
  have a1 : -128 ≤ x ∧ x ≤ 127 := ⟨hg.1.1, hg.1.2.1⟩
  have a2 : -128 ≤ y ∧ y ≤ 127 := ⟨hg.1.2.2.1, hg.1.2.2.2⟩
  have a3 : -128 ≤ u ∧ u ≤ 127 := ⟨hg.2.1.1, hg.2.1.2.1⟩
  have a4 : -128 ≤ v ∧ v ≤ 127 := ⟨hg.2.1.2.2.1, hg.2.1.2.2.2⟩
  clear hp hw hg
  obtain ⟨c1, e1⟩ : ∃ c, isC (p 0) (p 1) x y = c := ⟨_, rfl⟩
  obtain ⟨c2, e2⟩ : ∃ c, isC (p 0) (p 1) u v = c := ⟨_, rfl⟩
  obtain ⟨c3, e3⟩ : ∃ c, plainG ⟨x, y, u, v, rope, eats, likes⟩ = c := ⟨_, rfl⟩
  obtain ⟨c4, e4⟩ : ∃ c, nearI ⟨x, y, u, v, rope, eats, likes⟩ x y = c := ⟨_, rfl⟩
  have HV : Hid (goatOk p ⟨x, y, u, v, rope, eats, likes⟩ = (c1 && (c2 && (c3 && c4)))) := by show goatOk _ _ = _; rw [goatOk_near]; simp only [e1, e2, e3, e4]
  go_enter Try.func77, Try.ntmps77
  go_wp2_with (first
    | ((with_reducible refine gate_dst (N := 2) rfl ?_); refine wpl_box (cs := #[.int .i8 x, .int .i8 y, .int .i8 u, .int .i8 v, .int .i16 rope, .int .i16 eats, .int .i8 likes]) hL rfl rfl rfl ?_; clear hL; intro g2 w2 hL)
    | ((with_reducible refine gate_load rfl ?_); (refine wpl_ungate ?hw ?_); (case hw => (simp [Region.wanted, yielded]; done)))
    | ((with_reducible refine gate_load (ty := 36) rfl ?_); refine wpl_loadW_1 hL rfl rfl (by kernel_rfl) rfl hsz (by kernel_rfl) ?_)
    | ((with_reducible refine gate_load (ty := 68) rfl ?_); refine wpl_loadW_0 hL rfl rfl (by kernel_rfl) rfl rfl (by kernel_rfl) ?_)
    | ((with_reducible refine gate_load (ty := 66) rfl ?_); first | (refine wpl_loadN_0 (off := 0) (vs := #[.int .i8 x, .int .i8 y]) hL 2 rfl rfl (by kernel_rfl) (by kernel_rfl) rfl (by simp) rfl ?_) | (refine wpl_loadN_0 (off := 2) (vs := #[.int .i8 u, .int .i8 v]) hL 2 rfl rfl (by kernel_rfl) (by kernel_rfl) rfl (by simp) rfl ?_))
    | (go_at_call 78; first
      | ((with_reducible refine (isCell_any p cs x y _ HP.out a1 a2).mono ?_); rintro e w4 ⟨rfl, hb⟩; rw [e1]; replace hL := hL.ext hb; clear hb; cases c1)
      | ((with_reducible refine (isCell_any p cs u v _ HP.out a3 a4).mono ?_); rintro e w4 ⟨rfl, hb⟩; rw [e2]; replace hL := hL.ext hb; clear hb; cases c2))
    | (go_at_call 79; (with_reducible refine (isGoat_raw x y u v rope eats likes _ HG.out).mono ?_); rintro e w4 ⟨rfl, hb⟩; rw [e3]; replace hL := hL.ext hb; clear hb; cases c3)
    | (go_at_call 80; (with_reducible refine (reaches_raw x y u v rope eats likes x y _ HG.out HA.out).mono ?_); rintro e w4 ⟨rfl, hb⟩; rw [e4]; replace hL := hL.ext hb; clear hb; cases c4))
  all_goals (go_ret; exact ⟨by rw [HV.out]; rfl, hL.toBelow1 HW.out (hL.at_ (i := 1) rfl)⟩)
end Go.Proofs.Ytnfdefeafhepkaa
