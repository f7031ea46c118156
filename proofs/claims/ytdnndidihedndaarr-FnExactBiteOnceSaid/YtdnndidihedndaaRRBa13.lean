import Derived.Test.YtdnndidihedndaaRRBa09
import Derived.Test.YtdnndidihedndaaRRBa12
/- The laws' copiers and comparers of goats. Slices of at most 2 to the power 20 elements. -/
namespace Go.Proofs.YtdnndidihedndaaRR
set_option linter.unusedVariables false
set_option linter.unusedSimpArgs false
open Go.RowKit Mem

set_option maxRecDepth 100000 in
set_option maxHeartbeats 400000 in
theorem toGoat_any (x : Int) (y : Int) (u : Int) (v : Int) (rope : Int) (eats : Int) (likes : Int) (w : World) :
    Calls Try.prog 78 #[.agg #[.int .i8 x, .int .i8 y, .int .i8 u, .int .i8 v, .int .i16 rope, .int .i16 eats, .int .i8 likes]] w fun e w' => e = .returned (.agg #[.int .i8 x, .int .i8 y, .int .i8 u, .int .i8 v, .int .i16 rope, .int .i16 eats, .int .i8 likes]) ∧ Below w.heap.size w w' := by
  have hL := Own.start w
  go_enter Try.func78, Try.ntmps78
  go_wp2_with (first
    | ((with_reducible refine gate_dst (N := 1) rfl ?_); refine wpl_box (cs := #[.int .i8 x, .int .i8 y, .int .i8 u, .int .i8 v, .int .i16 rope, .int .i16 eats, .int .i8 likes]) hL rfl rfl rfl ?_; clear hL; intro g1 w1 hL)
    | ((with_reducible refine gate_dst (N := 2) rfl ?_); refine wpl_alloc (z := .agg (#[.int .i8 0, .int .i8 0, .int .i8 0, .int .i8 0, .int .i16 0, .int .i16 0, .int .i8 0])) (cs := #[.int .i8 0, .int .i8 0, .int .i8 0, .int .i8 0, .int .i16 0, .int .i16 0, .int .i8 0]) hL rfl rfl (by kernel_rfl) rfl ?_; clear hL; intro g2 w2 hL)
    | ((with_reducible refine gate_dst (N := 3) rfl ?_); refine wpl_alloc (z := .agg (#[.int .i8 0, .int .i8 0, .int .i8 0, .int .i8 0, .int .i16 0, .int .i16 0, .int .i8 0])) (cs := #[.int .i8 0, .int .i8 0, .int .i8 0, .int .i8 0, .int .i16 0, .int .i16 0, .int .i8 0]) hL rfl rfl (by kernel_rfl) rfl ?_; clear hL; intro g3 w3 hL)
    | ((with_reducible refine gate_load (ty := 103) rfl ?_); refine wpl_loadW_0 hL rfl rfl (by kernel_rfl) rfl rfl (by kernel_rfl) ?_)
    | ((with_reducible refine gate_load (ty := 42) rfl ?_); refine wpl_loadN_2 (off := 0) (vs := #[.int .i8 x, .int .i8 y]) hL 2 rfl rfl (by kernel_rfl) (by kernel_rfl) rfl (by simp) rfl ?_)
    | (go_at_call 32; (with_reducible refine (toSpot_any x y _).mono ?_); rintro e w4 ⟨rfl, hb⟩; replace hL := hL.ext hb; clear hb)
    | ((with_reducible refine gate_store (ty := 49) rfl ?_); refine wpl_storeN_0 (off := 0) (vs := #[.int .i8 x, .int .i8 y]) hL 2 rfl rfl (by kernel_rfl) rfl rfl rfl (by simp [Value.oneCell']) (by simp) ?_; clear hL; intro w5 hL; (try simp only [splice, List.take_zero, List.take_succ_cons, List.drop_succ_cons, List.drop_zero, List.nil_append, List.cons_append, List.append_nil, List.drop_nil, Nat.reduceAdd, List.size_toArray, List.length_cons, List.length_nil, List.take_nil, Nat.zero_add] at hL))
    | ((with_reducible refine gate_load (ty := 42) rfl ?_); refine wpl_loadN_2 (off := 2) (vs := #[.int .i8 u, .int .i8 v]) hL 2 rfl rfl (by kernel_rfl) (by kernel_rfl) rfl (by simp) rfl ?_)
    | (go_at_call 32; (with_reducible refine (toSpot_any u v _).mono ?_); rintro e w4 ⟨rfl, hb⟩; replace hL := hL.ext hb; clear hb)
    | ((with_reducible refine gate_store (ty := 49) rfl ?_); refine wpl_storeN_0 (off := 2) (vs := #[.int .i8 u, .int .i8 v]) hL 2 rfl rfl (by kernel_rfl) rfl rfl rfl (by simp [Value.oneCell']) (by simp) ?_; clear hL; intro w5 hL; (try simp only [splice, List.take_zero, List.take_succ_cons, List.drop_succ_cons, List.drop_zero, List.nil_append, List.cons_append, List.append_nil, List.drop_nil, Nat.reduceAdd, List.size_toArray, List.length_cons, List.length_nil, List.take_nil, Nat.zero_add] at hL))
    | ((with_reducible refine gate_load rfl ?_); first | (refine wpl_load_2 hL rfl rfl (by kernel_rfl) rfl (by first | rfl | assumption) ?_))
    | ((with_reducible refine gate_store (ty := 103) rfl ?_); refine wpl_storeW_1 hL rfl rfl rfl rfl rfl (by kernel_rfl) (by simp [Value.oneCell']) rfl ?_; clear hL; intro w5 hL)
    | ((with_reducible refine gate_store rfl ?_); first | (refine wpl_store1_0 hL rfl rfl (by kernel_rfl) rfl rfl rfl (by first | assumption | (simp; done) | (simp [*]; done)) ?_; clear hL; intro w0_ hL; (try simp only [Act.eval, Array.getD_eq_getD_getElem?, List.getElem?_toArray, List.getElem?_cons_zero, List.getElem?_cons_succ, Option.getD_some, List.setIfInBounds_toArray, List.set_cons_zero, List.set_cons_succ] at hL)))
    | ((with_reducible refine post_gate ?_); exact post1 rfl (res_cell (hL.at_ (i := 1) rfl) rfl (by kernel_rfl) rfl (by kernel_rfl)) rfl ⟨rfl, hL.toBelow⟩))

set_option maxRecDepth 100000 in
set_option maxHeartbeats 400000 in
theorem eqGoat_same (x : Int) (y : Int) (u : Int) (v : Int) (rope : Int) (eats : Int) (likes : Int) (w : World) :
    Calls Try.prog 81 #[.agg #[.int .i8 x, .int .i8 y, .int .i8 u, .int .i8 v, .int .i16 rope, .int .i16 eats, .int .i8 likes], .agg #[.int .i8 x, .int .i8 y, .int .i8 u, .int .i8 v, .int .i16 rope, .int .i16 eats, .int .i8 likes]] w fun e w' => e = .returned (.bool true) ∧ Below w.heap.size w w' := by
  have hL := Own.start w
  go_enter Try.func81, Try.ntmps81
  go_wp2_with (first
    | ((with_reducible refine gate_dst (N := 2) rfl ?_); refine wpl_box (cs := #[.int .i8 x, .int .i8 y, .int .i8 u, .int .i8 v, .int .i16 rope, .int .i16 eats, .int .i8 likes]) hL rfl rfl rfl ?_; clear hL; intro g2 w2 hL)
    | ((with_reducible refine gate_dst (N := 3) rfl ?_); refine wpl_box (cs := #[.int .i8 x, .int .i8 y, .int .i8 u, .int .i8 v, .int .i16 rope, .int .i16 eats, .int .i8 likes]) hL rfl rfl rfl ?_; clear hL; intro g3 w3 hL)
    | ((with_reducible refine gate_load (ty := 49) rfl ?_); refine wpl_loadN_0 (off := 0) (vs := #[.int .i8 x, .int .i8 y]) hL 2 rfl rfl (by kernel_rfl) (by kernel_rfl) rfl (by simp) rfl ?_)
    | ((with_reducible refine gate_load (ty := 49) rfl ?_); refine wpl_loadN_1 (off := 0) (vs := #[.int .i8 x, .int .i8 y]) hL 2 rfl rfl (by kernel_rfl) (by kernel_rfl) rfl (by simp) rfl ?_)
    | (go_at_call 135; (with_reducible refine (eqSpot_same x y _).mono ?_); rintro e w4 ⟨rfl, hb⟩; replace hL := hL.ext hb; clear hb)
    | ((with_reducible refine gate_load (ty := 49) rfl ?_); refine wpl_loadN_0 (off := 2) (vs := #[.int .i8 u, .int .i8 v]) hL 2 rfl rfl (by kernel_rfl) (by kernel_rfl) rfl (by simp) rfl ?_)
    | ((with_reducible refine gate_load (ty := 49) rfl ?_); refine wpl_loadN_1 (off := 2) (vs := #[.int .i8 u, .int .i8 v]) hL 2 rfl rfl (by kernel_rfl) (by kernel_rfl) rfl (by simp) rfl ?_)
    | (go_at_call 135; (with_reducible refine (eqSpot_same u v _).mono ?_); rintro e w4 ⟨rfl, hb⟩; replace hL := hL.ext hb; clear hb)
    | ((with_reducible refine gate_load rfl ?_); first | (refine wpl_load_0 hL rfl rfl (by kernel_rfl) rfl (by first | rfl | assumption) ?_) | (refine wpl_load_1 hL rfl rfl (by kernel_rfl) rfl (by first | rfl | assumption) ?_) | (refine wpl_load_2 hL rfl rfl (by kernel_rfl) rfl (by first | rfl | assumption) ?_) | (refine wpl_load_3 hL rfl rfl (by kernel_rfl) rfl (by first | rfl | assumption) ?_) | (refine wpl_load_4 hL rfl rfl (by kernel_rfl) rfl (by first | rfl | assumption) ?_) | (refine wpl_load_5 hL rfl rfl (by kernel_rfl) rfl (by first | rfl | assumption) ?_)))
  go_ret
  exact ⟨rfl, hL.toBelow⟩

end Go.Proofs.YtdnndidihedndaaRR
/- Arrays of numbers: equal ones compare as equal. -/
namespace Go.Proofs.YtdnndidihedndaaRR
set_option linter.unusedVariables false
set_option linter.unusedSimpArgs false
open Go.RowKit Mem
attribute [local irreducible] Calm.wpLex
set_option maxRecDepth 100000 in
set_option maxHeartbeats 1000000 in
theorem eqI_same (cs : Array Value) (w : World) (hc : IntsOf .i16 10 cs) :
    Calls Try.prog 237 #[.agg cs, .agg cs] w fun e w' => e = .returned (.bool true) ∧ Below w.heap.size w w' := by
  have hL := Own.start w
  have HC := Lib.hid hc
  clear hc
  go_enter Try.func237, Try.ntmps237
  go_wp2_with (first
    | ((with_reducible refine gate_dst (N := 2) rfl ?_); refine wpl_box (cs := cs) hL rfl rfl rfl ?_; clear hL; intro g2 w2 hL)
    | ((with_reducible refine gate_dst (N := 3) rfl ?_); refine wpl_box (cs := cs) hL rfl rfl rfl ?_; clear hL; intro g3 w3 hL))
  go_loopg [5] 10 (fun n i wr => ∃ (k : Nat), k ≤ 10 ∧ n = 10 - k ∧ i = .int .i64 k ∧ Own w.heap.size [] w wr [(g3, 24, cs), (g2, 24, cs)])
  case atStart => exact ⟨0, by omega, rfl, rfl, hL⟩
  case round =>
    clear hL
    obtain ⟨k, hk, rfl, rfl, hL⟩ := hrel
    by_cases hlt : k < 10
    · obtain ⟨q, hq⟩ := HC.out.2 k hlt
      have hki : (k : Int) < 10 := by omega
      go_wp2
      refine' Calm.wp_region_calm_lit [(Sum.inl _ : Calm.Plan), (Sum.inl _ : Calm.Plan), (Sum.inl (.int .i16 q) : Calm.Plan), (Sum.inl _ : Calm.Plan), (Sum.inl _ : Calm.Plan), (Sum.inl (.int .i16 q) : Calm.Plan), (Sum.inl (.bool false) : Calm.Plan)] (by kernel_rfl) (by kernel_rfl) (by kernel_rfl) ?calm_main0
      case' calm_main0 => skip
      refine lex_move rfl rfl (by simp only [Act.eval, Array.getD_eq_getD_getElem?, List.getElem?_toArray, List.getElem?_cons_zero, List.getElem?_cons_succ, Option.getD_some]; rfl) rfl ?_
      (try simp only [Act.put, Act.eval, Array.getD_eq_getD_getElem?, List.setIfInBounds_toArray, List.set_cons_zero, List.set_cons_succ, List.getElem?_toArray, List.getElem?_cons_zero, List.getElem?_cons_succ, Option.getD_some, List.getElem_toArray, List.getElem_cons_zero, List.getElem_cons_succ])
      refine lex_pure rfl rfl (by intro w'; go_simp; (try go_bits); rfl) ?_
      (try simp only [Act.put, Act.eval, Array.getD_eq_getD_getElem?, List.setIfInBounds_toArray, List.set_cons_zero, List.set_cons_succ, List.getElem?_toArray, List.getElem?_cons_zero, List.getElem?_cons_succ, Option.getD_some, List.getElem_toArray, List.getElem_cons_zero, List.getElem_cons_succ])
      refine lex_load_1 hL rfl rfl (by kernel_rfl) rfl hq rfl ?_
      (try simp only [Act.put, Act.eval, Array.getD_eq_getD_getElem?, List.setIfInBounds_toArray, List.set_cons_zero, List.set_cons_succ, List.getElem?_toArray, List.getElem?_cons_zero, List.getElem?_cons_succ, Option.getD_some, List.getElem_toArray, List.getElem_cons_zero, List.getElem_cons_succ])
      refine lex_move rfl rfl (by simp only [Act.eval, Array.getD_eq_getD_getElem?, List.getElem?_toArray, List.getElem?_cons_zero, List.getElem?_cons_succ, Option.getD_some]; rfl) rfl ?_
      (try simp only [Act.put, Act.eval, Array.getD_eq_getD_getElem?, List.setIfInBounds_toArray, List.set_cons_zero, List.set_cons_succ, List.getElem?_toArray, List.getElem?_cons_zero, List.getElem?_cons_succ, Option.getD_some, List.getElem_toArray, List.getElem_cons_zero, List.getElem_cons_succ])
      refine lex_pure rfl rfl (by intro w'; go_simp; (try go_bits); rfl) ?_
      (try simp only [Act.put, Act.eval, Array.getD_eq_getD_getElem?, List.setIfInBounds_toArray, List.set_cons_zero, List.set_cons_succ, List.getElem?_toArray, List.getElem?_cons_zero, List.getElem?_cons_succ, Option.getD_some, List.getElem_toArray, List.getElem_cons_zero, List.getElem_cons_succ])
      refine lex_load_0 hL rfl rfl (by kernel_rfl) rfl hq rfl ?_
      (try simp only [Act.put, Act.eval, Array.getD_eq_getD_getElem?, List.setIfInBounds_toArray, List.set_cons_zero, List.set_cons_succ, List.getElem?_toArray, List.getElem?_cons_zero, List.getElem?_cons_succ, Option.getD_some, List.getElem_toArray, List.getElem_cons_zero, List.getElem_cons_succ])
      refine lex_pure rfl rfl (by intro w'; (go_simp <;> simp)) ?_
      (try simp only [Act.put, Act.eval, Array.getD_eq_getD_getElem?, List.setIfInBounds_toArray, List.set_cons_zero, List.set_cons_succ, List.getElem?_toArray, List.getElem?_cons_zero, List.getElem?_cons_succ, Option.getD_some, List.getElem_toArray, List.getElem_cons_zero, List.getElem_cons_succ])
      refine lex_nil ?_
      intro wc hH
      replace hL := hL.ext hH.below
      clear hH
      go_wp2
      go_roundg (10 - (k + 1))
      case measure => omega
      case rel => exact ⟨k + 1, by omega, rfl, by go_num, hL⟩
    · go_wp2
      go_ret
      exact ⟨rfl, hL.toBelow⟩
set_option maxRecDepth 100000 in
set_option maxHeartbeats 1000000 in
theorem eqU_same (cs : Array Value) (w : World) (hc : IntsOf .u16 10 cs) :
    Calls Try.prog 181 #[.agg cs, .agg cs] w fun e w' => e = .returned (.bool true) ∧ Below w.heap.size w w' := by
  have hL := Own.start w
  have HC := Lib.hid hc
  clear hc
  go_enter Try.func181, Try.ntmps181
  go_wp2_with (first
    | ((with_reducible refine gate_dst (N := 2) rfl ?_); refine wpl_box (cs := cs) hL rfl rfl rfl ?_; clear hL; intro g2 w2 hL)
    | ((with_reducible refine gate_dst (N := 3) rfl ?_); refine wpl_box (cs := cs) hL rfl rfl rfl ?_; clear hL; intro g3 w3 hL))
  go_loopg [5] 10 (fun n i wr => ∃ (k : Nat), k ≤ 10 ∧ n = 10 - k ∧ i = .int .i64 k ∧ Own w.heap.size [] w wr [(g3, 27, cs), (g2, 27, cs)])
  case atStart => exact ⟨0, by omega, rfl, rfl, hL⟩
  case round =>
    clear hL
    obtain ⟨k, hk, rfl, rfl, hL⟩ := hrel
    by_cases hlt : k < 10
    · obtain ⟨q, hq⟩ := HC.out.2 k hlt
      have hki : (k : Int) < 10 := by omega
      go_wp2
      refine' Calm.wp_region_calm_lit [(Sum.inl _ : Calm.Plan), (Sum.inl _ : Calm.Plan), (Sum.inl (.int .u16 q) : Calm.Plan), (Sum.inl _ : Calm.Plan), (Sum.inl _ : Calm.Plan), (Sum.inl (.int .u16 q) : Calm.Plan), (Sum.inl (.bool false) : Calm.Plan)] (by kernel_rfl) (by kernel_rfl) (by kernel_rfl) ?calm_main1
      case' calm_main1 => skip
      refine lex_move rfl rfl (by simp only [Act.eval, Array.getD_eq_getD_getElem?, List.getElem?_toArray, List.getElem?_cons_zero, List.getElem?_cons_succ, Option.getD_some]; rfl) rfl ?_
      (try simp only [Act.put, Act.eval, Array.getD_eq_getD_getElem?, List.setIfInBounds_toArray, List.set_cons_zero, List.set_cons_succ, List.getElem?_toArray, List.getElem?_cons_zero, List.getElem?_cons_succ, Option.getD_some, List.getElem_toArray, List.getElem_cons_zero, List.getElem_cons_succ])
      refine lex_pure rfl rfl (by intro w'; go_simp; (try go_bits); rfl) ?_
      (try simp only [Act.put, Act.eval, Array.getD_eq_getD_getElem?, List.setIfInBounds_toArray, List.set_cons_zero, List.set_cons_succ, List.getElem?_toArray, List.getElem?_cons_zero, List.getElem?_cons_succ, Option.getD_some, List.getElem_toArray, List.getElem_cons_zero, List.getElem_cons_succ])
      refine lex_load_1 hL rfl rfl (by kernel_rfl) rfl hq rfl ?_
      (try simp only [Act.put, Act.eval, Array.getD_eq_getD_getElem?, List.setIfInBounds_toArray, List.set_cons_zero, List.set_cons_succ, List.getElem?_toArray, List.getElem?_cons_zero, List.getElem?_cons_succ, Option.getD_some, List.getElem_toArray, List.getElem_cons_zero, List.getElem_cons_succ])
      refine lex_move rfl rfl (by simp only [Act.eval, Array.getD_eq_getD_getElem?, List.getElem?_toArray, List.getElem?_cons_zero, List.getElem?_cons_succ, Option.getD_some]; rfl) rfl ?_
      (try simp only [Act.put, Act.eval, Array.getD_eq_getD_getElem?, List.setIfInBounds_toArray, List.set_cons_zero, List.set_cons_succ, List.getElem?_toArray, List.getElem?_cons_zero, List.getElem?_cons_succ, Option.getD_some, List.getElem_toArray, List.getElem_cons_zero, List.getElem_cons_succ])
      refine lex_pure rfl rfl (by intro w'; go_simp; (try go_bits); rfl) ?_
      (try simp only [Act.put, Act.eval, Array.getD_eq_getD_getElem?, List.setIfInBounds_toArray, List.set_cons_zero, List.set_cons_succ, List.getElem?_toArray, List.getElem?_cons_zero, List.getElem?_cons_succ, Option.getD_some, List.getElem_toArray, List.getElem_cons_zero, List.getElem_cons_succ])
      refine lex_load_0 hL rfl rfl (by kernel_rfl) rfl hq rfl ?_
      (try simp only [Act.put, Act.eval, Array.getD_eq_getD_getElem?, List.setIfInBounds_toArray, List.set_cons_zero, List.set_cons_succ, List.getElem?_toArray, List.getElem?_cons_zero, List.getElem?_cons_succ, Option.getD_some, List.getElem_toArray, List.getElem_cons_zero, List.getElem_cons_succ])
      refine lex_pure rfl rfl (by intro w'; (go_simp <;> simp)) ?_
      (try simp only [Act.put, Act.eval, Array.getD_eq_getD_getElem?, List.setIfInBounds_toArray, List.set_cons_zero, List.set_cons_succ, List.getElem?_toArray, List.getElem?_cons_zero, List.getElem?_cons_succ, Option.getD_some, List.getElem_toArray, List.getElem_cons_zero, List.getElem_cons_succ])
      refine lex_nil ?_
      intro wc hH
      replace hL := hL.ext hH.below
      clear hH
      go_wp2
      go_roundg (10 - (k + 1))
      case measure => omega
      case rel => exact ⟨k + 1, by omega, rfl, by go_num, hL⟩
    · go_wp2
      go_ret
      exact ⟨rfl, hL.toBelow⟩
end Go.Proofs.YtdnndidihedndaaRR
/- Rows of numbers: equal ones compare as equal. -/
namespace Go.Proofs.YtdnndidihedndaaRR
set_option linter.unusedVariables false
set_option linter.unusedSimpArgs false
open Go.RowKit Mem
attribute [local irreducible] Calm.wpLex
set_option maxRecDepth 100000 in
set_option maxHeartbeats 1000000 in
theorem eqII_same (cs : Array Value) (w : World) (hc : IntsOf .i16 100 cs) :
    Calls Try.prog 180 #[.agg cs, .agg cs] w fun e w' => e = .returned (.bool true) ∧ Below w.heap.size w w' := by
  have hL := Own.start w
  have HC := Lib.hid hc
  have hsz := hc.1
  clear hc
  go_enter Try.func180, Try.ntmps180
  go_wp2_with (first
    | ((with_reducible refine gate_dst (N := 2) rfl ?_); refine wpl_box (cs := cs) hL rfl rfl rfl ?_; clear hL; intro g2 w2 hL)
    | ((with_reducible refine gate_dst (N := 3) rfl ?_); refine wpl_box (cs := cs) hL rfl rfl rfl ?_; clear hL; intro g3 w3 hL))
  go_loopg [5] 10 (fun n i wr => ∃ (k : Nat), k ≤ 10 ∧ n = 10 - k ∧ i = .int .i64 k ∧ Own w.heap.size [] w wr [(g3, 25, cs), (g2, 25, cs)])
  case atStart => exact ⟨0, by omega, rfl, rfl, hL⟩
  case round =>
    clear hL
    obtain ⟨k, hk, rfl, rfl, hL⟩ := hrel
    by_cases hlt : k < 10
    · obtain ⟨row, hrow⟩ : ∃ row, cs.extract (k * 10) (k * 10 + 10) = row := ⟨_, rfl⟩
      have HR : Hid (IntsOf .i16 10 row) := by rw [← hrow]; exact HC.out.part (k * 10) 10 (by omega)
      have hki : (k : Int) < 10 := by omega
      have hfit : k * 10 + 10 ≤ cs.size := by omega
      go_wp2
      refine' Calm.wp_region_calm_lit [(Sum.inl _ : Calm.Plan), (Sum.inl _ : Calm.Plan), (Sum.inl (.agg row) : Calm.Plan), (Sum.inl _ : Calm.Plan), (Sum.inl _ : Calm.Plan), (Sum.inl (.agg row) : Calm.Plan), (Sum.inl (.bool true) : Calm.Plan), (Sum.inl _ : Calm.Plan)] (by kernel_rfl) (by kernel_rfl) (by kernel_rfl) ?calm_main0
      case' calm_main0 => skip
      refine lex_move rfl rfl (by simp only [Act.eval, Array.getD_eq_getD_getElem?, List.getElem?_toArray, List.getElem?_cons_zero, List.getElem?_cons_succ, Option.getD_some]; rfl) rfl ?_
      (try simp only [Act.put, Act.eval, Array.getD_eq_getD_getElem?, List.setIfInBounds_toArray, List.set_cons_zero, List.set_cons_succ, List.getElem?_toArray, List.getElem?_cons_zero, List.getElem?_cons_succ, Option.getD_some, List.getElem_toArray, List.getElem_cons_zero, List.getElem_cons_succ])
      refine lex_pure rfl rfl (by intro w'; go_simp; (try go_bits); rfl) ?_
      (try simp only [Act.put, Act.eval, Array.getD_eq_getD_getElem?, List.setIfInBounds_toArray, List.set_cons_zero, List.set_cons_succ, List.getElem?_toArray, List.getElem?_cons_zero, List.getElem?_cons_succ, Option.getD_some, List.getElem_toArray, List.getElem_cons_zero, List.getElem_cons_succ])
      refine lex_loadN_1 hL 10 rfl rfl (by kernel_rfl) (by kernel_rfl) (off := k * 10) rfl hfit (vs := row) hrow rfl rfl ?_
      (try simp only [Act.put, Act.eval, Array.getD_eq_getD_getElem?, List.setIfInBounds_toArray, List.set_cons_zero, List.set_cons_succ, List.getElem?_toArray, List.getElem?_cons_zero, List.getElem?_cons_succ, Option.getD_some, List.getElem_toArray, List.getElem_cons_zero, List.getElem_cons_succ])
      refine lex_move rfl rfl (by simp only [Act.eval, Array.getD_eq_getD_getElem?, List.getElem?_toArray, List.getElem?_cons_zero, List.getElem?_cons_succ, Option.getD_some]; rfl) rfl ?_
      (try simp only [Act.put, Act.eval, Array.getD_eq_getD_getElem?, List.setIfInBounds_toArray, List.set_cons_zero, List.set_cons_succ, List.getElem?_toArray, List.getElem?_cons_zero, List.getElem?_cons_succ, Option.getD_some, List.getElem_toArray, List.getElem_cons_zero, List.getElem_cons_succ])
      refine lex_pure rfl rfl (by intro w'; go_simp; (try go_bits); rfl) ?_
      (try simp only [Act.put, Act.eval, Array.getD_eq_getD_getElem?, List.setIfInBounds_toArray, List.set_cons_zero, List.set_cons_succ, List.getElem?_toArray, List.getElem?_cons_zero, List.getElem?_cons_succ, Option.getD_some, List.getElem_toArray, List.getElem_cons_zero, List.getElem_cons_succ])
      refine lex_loadN_0 hL 10 rfl rfl (by kernel_rfl) (by kernel_rfl) (off := k * 10) rfl hfit (vs := row) hrow rfl rfl ?_
      (try simp only [Act.put, Act.eval, Array.getD_eq_getD_getElem?, List.setIfInBounds_toArray, List.set_cons_zero, List.set_cons_succ, List.getElem?_toArray, List.getElem?_cons_zero, List.getElem?_cons_succ, Option.getD_some, List.getElem_toArray, List.getElem_cons_zero, List.getElem_cons_succ])
      refine lex_call Try.func237 (by kernel_rfl) rfl rfl rfl (by simp only [List.map_toArray, List.map_cons, List.map_nil, Act.eval, Array.getD_eq_getD_getElem?, List.getElem?_toArray, List.getElem?_cons_zero, List.getElem?_cons_succ, Option.getD_some]; try rfl) rfl (fun w' hb => eqI_same row _ HR.out) ?_
      (try simp only [Act.put, Act.eval, Array.getD_eq_getD_getElem?, List.setIfInBounds_toArray, List.set_cons_zero, List.set_cons_succ, List.getElem?_toArray, List.getElem?_cons_zero, List.getElem?_cons_succ, Option.getD_some, List.getElem_toArray, List.getElem_cons_zero, List.getElem_cons_succ])
      refine lex_pure rfl rfl (by intro w'; go_simp; (try go_bits); rfl) ?_
      (try simp only [Act.put, Act.eval, Array.getD_eq_getD_getElem?, List.setIfInBounds_toArray, List.set_cons_zero, List.set_cons_succ, List.getElem?_toArray, List.getElem?_cons_zero, List.getElem?_cons_succ, Option.getD_some, List.getElem_toArray, List.getElem_cons_zero, List.getElem_cons_succ])
      refine lex_nil ?_
      intro wc hH
      replace hL := hL.ext hH.below
      clear hH
      go_wp2
      go_roundg (10 - (k + 1))
      case measure => omega
      case rel => exact ⟨k + 1, by omega, rfl, by go_num, hL⟩
    · go_wp2
      go_ret
      exact ⟨rfl, hL.toBelow⟩
end Go.Proofs.YtdnndidihedndaaRR
/- Pastures: equal ones compare as equal. -/
namespace Go.Proofs.YtdnndidihedndaaRR
set_option linter.unusedVariables false
set_option linter.unusedSimpArgs false
open Go.RowKit Mem
attribute [local irreducible] Calm.wpLex
set_option maxRecDepth 100000 in
set_option maxHeartbeats 1000000 in
theorem eqPasture_same (p : Nat → Int) (cs : Array Value) (w : World) (hp : Pv p cs) :
    Calls Try.prog 80 #[.agg cs, .agg cs] w fun e w' => e = .returned (.bool true) ∧ Below w.heap.size w w' := by
  have hL := Own.start w
  have g0 := hp.g0
  have g1 := hp.g1
  have hsz := hp.size
  obtain ⟨gr, hgr⟩ : ∃ a, cs.extract 2 (2 + 100) = a := ⟨_, rfl⟩
  obtain ⟨ea, hea⟩ : ∃ a, cs.extract 102 (102 + 10) = a := ⟨_, rfl⟩
  obtain ⟨so, hso⟩ : ∃ a, cs.extract 112 (112 + 10) = a := ⟨_, rfl⟩
  have HG : Hid (IntsOf .i16 100 gr) := by rw [← hgr]; exact hp.ints16
  have HE : Hid (IntsOf .u16 10 ea) := by rw [← hea]; exact hp.intsE
  have HS : Hid (IntsOf .u16 10 so) := by rw [← hso]; exact hp.intsS
  have f1 : 2 + 100 ≤ cs.size := by omega
  have f2 : 102 + 10 ≤ cs.size := by omega
  have f3 : 112 + 10 ≤ cs.size := by omega
  clear hp
  go_enter Try.func80, Try.ntmps80
  go_wp2_with (first
    | ((with_reducible refine gate_dst (N := 2) rfl ?_); refine wpl_box (cs := cs) hL rfl rfl rfl ?_; clear hL; intro g2 w2 hL)
    | ((with_reducible refine gate_dst (N := 3) rfl ?_); refine wpl_box (cs := cs) hL rfl rfl rfl ?_; clear hL; intro g3 w3 hL)
    | ((with_reducible refine gate_load (ty := 22) rfl ?_); first
      | (refine wpl_load_1 hL rfl rfl (by kernel_rfl) rfl g0 ?_)
      | (refine wpl_load_0 hL rfl rfl (by kernel_rfl) rfl g0 ?_)
      | (refine wpl_load_1 hL rfl rfl (by kernel_rfl) rfl g1 ?_)
      | (refine wpl_load_0 hL rfl rfl (by kernel_rfl) rfl g1 ?_))
    | ((with_reducible refine gate_load (ty := 25) rfl ?_); first
      | (refine wpl_loadN_1 (off := 2) (vs := gr) hL 100 rfl rfl (by kernel_rfl) (by kernel_rfl) rfl f1 hgr ?_)
      | (refine wpl_loadN_0 (off := 2) (vs := gr) hL 100 rfl rfl (by kernel_rfl) (by kernel_rfl) rfl f1 hgr ?_))
    | ((with_reducible refine gate_load (ty := 27) rfl ?_); first
      | (refine wpl_loadN_1 (off := 102) (vs := ea) hL 10 rfl rfl (by kernel_rfl) (by kernel_rfl) rfl f2 hea ?_)
      | (refine wpl_loadN_0 (off := 102) (vs := ea) hL 10 rfl rfl (by kernel_rfl) (by kernel_rfl) rfl f2 hea ?_)
      | (refine wpl_loadN_1 (off := 112) (vs := so) hL 10 rfl rfl (by kernel_rfl) (by kernel_rfl) rfl f3 hso ?_)
      | (refine wpl_loadN_0 (off := 112) (vs := so) hL 10 rfl rfl (by kernel_rfl) (by kernel_rfl) rfl f3 hso ?_))
    | (go_at_call 180; (with_reducible refine (eqII_same gr _ HG.out).mono ?_); rintro e w4 ⟨rfl, hb⟩; replace hL := hL.ext hb; clear hb)
    | (go_at_call 181; first
      | ((with_reducible refine (eqU_same ea _ HE.out).mono ?_); rintro e w4 ⟨rfl, hb⟩; replace hL := hL.ext hb; clear hb)
      | ((with_reducible refine (eqU_same so _ HS.out).mono ?_); rintro e w4 ⟨rfl, hb⟩; replace hL := hL.ext hb; clear hb)))
  go_ret
  exact ⟨rfl, hL.toBelow⟩
end Go.Proofs.YtdnndidihedndaaRR
