/- The laws' copiers and comparers of stakes. Slices of at most 2 to the power 20 elements. -/
import Derived.Test.YtfefkkpcjcnmcaaFmP
namespace Go.Proofs.Ytfefkkpcjcnmcaa
set_option linter.unusedVariables false
set_option linter.unusedSimpArgs false
open Go.RowKit Mem

set_option maxRecDepth 100000 in
set_option maxHeartbeats 400000 in
theorem toStake_any (x : Int) (y : Int) (r : Int) (w : World) :
    Calls Try.prog 37 #[.agg #[.int .i8 x, .int .i8 y, .int .i16 r]] w fun e w' => e = .returned (.agg #[.int .i8 x, .int .i8 y, .int .i16 r]) ∧ Below w.heap.size w w' := by
  have hL := Own.start w
  go_enter Try.func37, Try.ntmps37
  go_wp2_with (first
    | ((with_reducible refine gate_dst (N := 1) rfl ?_); refine wpl_box (cs := #[.int .i8 x, .int .i8 y, .int .i16 r]) hL rfl rfl rfl ?_; clear hL; intro g1 w1 hL)
    | ((with_reducible refine gate_dst (N := 2) rfl ?_); refine wpl_alloc (z := .agg (#[.int .i8 0, .int .i8 0, .int .i16 0])) (cs := #[.int .i8 0, .int .i8 0, .int .i16 0]) hL rfl rfl (by kernel_rfl) rfl ?_; clear hL; intro g2 w2 hL)
    | ((with_reducible refine gate_dst (N := 3) rfl ?_); refine wpl_alloc (z := .agg (#[.int .i8 0, .int .i8 0, .int .i16 0])) (cs := #[.int .i8 0, .int .i8 0, .int .i16 0]) hL rfl rfl (by kernel_rfl) rfl ?_; clear hL; intro g3 w3 hL)
    | ((with_reducible refine gate_load (ty := 52) rfl ?_); refine wpl_loadW_0 hL rfl rfl (by kernel_rfl) rfl rfl (by kernel_rfl) ?_)
    | ((with_reducible refine gate_load (ty := 31) rfl ?_); refine wpl_loadN_2 (off := 0) (vs := #[.int .i8 x, .int .i8 y]) hL 2 rfl rfl (by kernel_rfl) (by kernel_rfl) rfl (by simp) rfl ?_)
    | (go_at_call 28; (with_reducible refine (toSpot_any x y _).mono ?_); rintro e w4 ⟨rfl, hb⟩; replace hL := hL.ext hb; clear hb)
    | ((with_reducible refine gate_store (ty := 38) rfl ?_); refine wpl_storeN_0 (off := 0) (vs := #[.int .i8 x, .int .i8 y]) hL 2 rfl rfl (by kernel_rfl) rfl rfl rfl (by simp [Value.oneCell']) (by simp) ?_; clear hL; intro w5 hL; (try simp only [splice, List.take_zero, List.take_succ_cons, List.drop_succ_cons, List.drop_zero, List.nil_append, List.cons_append, List.append_nil, List.drop_nil, Nat.reduceAdd, List.size_toArray, List.length_cons, List.length_nil, List.take_nil, Nat.zero_add] at hL))
    | ((with_reducible refine gate_load rfl ?_); first | (refine wpl_load_2 hL rfl rfl (by kernel_rfl) rfl (by first | rfl | assumption) ?_))
    | ((with_reducible refine gate_store (ty := 52) rfl ?_); refine wpl_storeW_1 hL rfl rfl rfl rfl rfl (by kernel_rfl) (by simp [Value.oneCell']) rfl ?_; clear hL; intro w5 hL)
    | ((with_reducible refine gate_store rfl ?_); first | (refine wpl_store1_0 hL rfl rfl (by kernel_rfl) rfl rfl rfl (by first | assumption | (simp; done) | (simp [*]; done)) ?_; clear hL; intro w0_ hL; (try simp only [Act.eval, Array.getD_eq_getD_getElem?, List.getElem?_toArray, List.getElem?_cons_zero, List.getElem?_cons_succ, Option.getD_some, List.setIfInBounds_toArray, List.set_cons_zero, List.set_cons_succ] at hL)))
    | ((with_reducible refine post_gate ?_); exact post1 rfl (res_cell (hL.at_ (i := 1) rfl) rfl (by kernel_rfl) rfl (by kernel_rfl)) rfl ⟨rfl, hL.toBelow⟩))

set_option maxRecDepth 100000 in
set_option maxHeartbeats 400000 in
theorem eqStake_same (x : Int) (y : Int) (r : Int) (w : World) :
    Calls Try.prog 181 #[.agg #[.int .i8 x, .int .i8 y, .int .i16 r], .agg #[.int .i8 x, .int .i8 y, .int .i16 r]] w fun e w' => e = .returned (.bool true) ∧ Below w.heap.size w w' := by
  have hL := Own.start w
  go_enter Try.func181, Try.ntmps181
  go_wp2_with (first
    | ((with_reducible refine gate_dst (N := 2) rfl ?_); refine wpl_box (cs := #[.int .i8 x, .int .i8 y, .int .i16 r]) hL rfl rfl rfl ?_; clear hL; intro g2 w2 hL)
    | ((with_reducible refine gate_dst (N := 3) rfl ?_); refine wpl_box (cs := #[.int .i8 x, .int .i8 y, .int .i16 r]) hL rfl rfl rfl ?_; clear hL; intro g3 w3 hL)
    | ((with_reducible refine gate_load (ty := 38) rfl ?_); refine wpl_loadN_0 (off := 0) (vs := #[.int .i8 x, .int .i8 y]) hL 2 rfl rfl (by kernel_rfl) (by kernel_rfl) rfl (by simp) rfl ?_)
    | ((with_reducible refine gate_load (ty := 38) rfl ?_); refine wpl_loadN_1 (off := 0) (vs := #[.int .i8 x, .int .i8 y]) hL 2 rfl rfl (by kernel_rfl) (by kernel_rfl) rfl (by simp) rfl ?_)
    | (go_at_call 62; (with_reducible refine (eqSpot_same x y _).mono ?_); rintro e w4 ⟨rfl, hb⟩; replace hL := hL.ext hb; clear hb)
    | ((with_reducible refine gate_load rfl ?_); first | (refine wpl_load_0 hL rfl rfl (by kernel_rfl) rfl (by first | rfl | assumption) ?_) | (refine wpl_load_1 hL rfl rfl (by kernel_rfl) rfl (by first | rfl | assumption) ?_) | (refine wpl_load_2 hL rfl rfl (by kernel_rfl) rfl (by first | rfl | assumption) ?_) | (refine wpl_load_3 hL rfl rfl (by kernel_rfl) rfl (by first | rfl | assumption) ?_) | (refine wpl_load_4 hL rfl rfl (by kernel_rfl) rfl (by first | rfl | assumption) ?_) | (refine wpl_load_5 hL rfl rfl (by kernel_rfl) rfl (by first | rfl | assumption) ?_)))
  go_ret
  exact ⟨rfl, hL.toBelow⟩

theorem Sk_cells_len (l : List Sk) : ∀ c ∈ l.map Sk.cells, c.length = 3 := by
  intro c hc
  obtain ⟨s, _, rfl⟩ := List.mem_map.1 hc
  rfl
theorem Sk_cells_one (s : Sk) : ∀ v ∈ s.cells.toArray.toList, v.oneCell' = true := by
  intro v hv
  simp [Sk.cells] at hv
  rcases hv with rfl | rfl | rfl <;> rfl

set_option maxRecDepth 100000 in
theorem szStakeS_any (v : Value) (l : List Sk) (left : Int) (w : World) (hl : Sl w 3 v (l.map Sk.cells)) (h0 : 0 ≤ left) (h1 : left ≤ 1048576) :
    Calls Try.prog 70 #[v, .int .i64 left] w fun e w' => e = .returned (.int .i64 (if (l.length : Int) ≤ left then left - l.length else -1)) ∧ w = w' := by
  obtain ⟨A, cap, rfl, hc, hm, _⟩ := hl
  rw [List.length_map] at hc ⊢
  unfold maxLen at hm
  by_cases h : (l.length : Int) ≤ left
  · have hd : decide (left - (l.length : Int) < 0) = false := by simp; omega
    rw [if_pos h]
    go_enter Try.func70, Try.ntmps70
    go_wp2
    go_ret
    exact ⟨rfl, rfl⟩
  · have hd : decide (left - (l.length : Int) < 0) = true := by simp; omega
    rw [if_neg h]
    go_enter Try.func70, Try.ntmps70
    go_wp2
    go_ret
    exact ⟨rfl, rfl⟩

set_option maxRecDepth 100000 in
set_option maxHeartbeats 400000 in
theorem toStakeS_any (v : Value) (l : List Sk) (w : World) (hl : Sl w 3 v (l.map Sk.cells)) (h1 : l.length ≤ 1048576) :
    Calls Try.prog 72 #[v] w fun e w' => ∃ u, e = .returned u ∧ Sl w' 3 u (l.map Sk.cells) ∧ Below w.heap.size w w' := by
  have hL := Own.start w
  have HS := Lib.hid hl
  have HLN := Lib.hid (Sk_cells_len l)
  obtain ⟨A, cap, rfl, hc, hm, _⟩ := hl
  rw [List.length_map] at hc HS ⊢
  have hmm : l.length ≤ maxLen := by unfold maxLen; omega
  clear hc hm
  obtain ⟨N, hN⟩ : ∃ N, l.length = N := ⟨_, rfl⟩
  have HN := Lib.hid hN
  rw [hN] at h1 hmm HS ⊢
  clear hN
  go_enter Try.func72, Try.ntmps72
  go_wp2_with (first
    | (at_make; refine wpl_make (size := 3) (bytes := 4) (z := .agg #[.int .i8 0, .int .i8 0, .int .i16 0]) hL rfl rfl Try.underlying97 (by kernel_rfl) rfl rfl (by omega) hmm ?_; clear hL; intro g7 c7 w7 hs7 hL; have HS7 := Lib.hid hs7; clear hs7))
  go_loopg [4] N (fun n i wr => ∃ (k : Nat) (o : Array Value), k ≤ N ∧ n = N - k ∧ i = .int .i64 k ∧ Hid (o.size = N * 3) ∧ Hid (∀ j, j < k * 3 → o[j]? = (l.map Sk.cells).flatten[j]?) ∧ Own w.heap.size [] w wr [(g7, 52, o)])
  case atStart => exact ⟨0, _, by omega, rfl, rfl, HS7.out, (fun j hj => by omega : ∀ j, j < 0 * 3 → _), hL⟩
  case round =>
    clear hL
    obtain ⟨k, o, hk, rfl, rfl, HO, HP, hL⟩ := hrel
    by_cases hlt : k < N
    · have HS2 := HS.out.below hL.toBelow
      obtain ⟨A2, cap2, hv2, _, _, hel⟩ := HS2
      injection hv2 with hA hn2 hc2
      obtain ⟨s, hs⟩ : ∃ s, l[k]? = some s := ⟨_, List.getElem?_eq_getElem (by have := HN.out; omega)⟩
      have hmap : (l.map Sk.cells)[k]? = some s.cells := by rw [List.getElem?_map, hs]; rfl
      obtain ⟨hcl, b, off, hA2, hcell⟩ := hel k _ hmap
      have hfit : k * 3 + 3 ≤ o.size := by have := HO.out; omega
      have hflat : ∀ j, j < 3 → (l.map Sk.cells).flatten[k * 3 + j]? = s.cells[j]? := fun j hj => flat_get _ HLN.out k _ hmap j hj
      have HF := Lib.hid hflat
      have HC := Lib.hid hcell
      have h1c := Sk_cells_one s
      have H1C := Lib.hid h1c
      obtain rfl : A = some ⟨b, off, none⟩ := hA.trans hA2
      clear hel hmap hs hA hn2 hc2 hA2 hflat hcell h1c
      go_wp2_with (first
        | ((with_reducible refine gate_load rfl ?_); refine wpl_loadA 3 rfl rfl (by kernel_rfl) rfl (c := s.cells) HC.out (by kernel_rfl) rfl ?_)
        | (go_at_call 37; (refine (toStake_any s.x s.y s.r _).mono ?_); rintro e w4 ⟨rfl, hb⟩; replace hL := hL.ext hb; clear hb)
        | ((with_reducible refine gate_store rfl ?_); refine wpl_storeN_0 (vs := s.cells.toArray) hL 3 rfl rfl (by kernel_rfl) rfl rfl rfl H1C.out hfit ?_; clear hL; intro w5 hL))
      go_roundg (N - (k + 1))
      case measure => omega
      case rel => exact ⟨k + 1, _, by omega, rfl, by go_num, (splice_size _ _ _ (by exact hfit)).trans HO.out, copy_prefix rfl hfit HF.out HP.out, hL⟩
    · go_wp2
      go_ret
      refine ⟨_, rfl, ?_, hL.toBelow⟩
      have hNk : k = N := by omega
      subst hNk
      exact Sl.of_block HLN.out (by rw [List.length_map]; exact HN.out) hmm (hL.at_ (i := 0) rfl) (fun j hj => HP.out j (by rw [List.length_map, HN.out] at hj; exact hj))

set_option maxRecDepth 100000 in
set_option maxHeartbeats 400000 in
theorem eqStakeS_same (v u : Value) (l : List Sk) (w : World) (hl : Sl w 3 v (l.map Sk.cells)) (hr : Sl w 3 u (l.map Sk.cells)) (h1 : l.length ≤ 1048576) :
    Calls Try.prog 74 #[v, u] w fun e w' => e = .returned (.bool true) ∧ Below w.heap.size w w' := by
  have hL := Own.start w
  have HS := Lib.hid hl
  have HR := Lib.hid hr
  obtain ⟨A, cap, rfl, _, _, _⟩ := hl
  obtain ⟨A', cap', rfl, _, _, _⟩ := hr
  rw [List.length_map] at HS HR ⊢
  obtain ⟨N, hN⟩ : ∃ N, l.length = N := ⟨_, rfl⟩
  have HN := Lib.hid hN
  rw [hN] at h1 HS HR ⊢
  clear hN
  go_enter Try.func74, Try.ntmps74
  go_wp2
  go_loopg [5] N (fun n i wr => ∃ (k : Nat), k ≤ N ∧ n = N - k ∧ i = .int .i64 k ∧ Own w.heap.size [] w wr [])
  case atStart => exact ⟨0, by omega, rfl, rfl, hL⟩
  case round =>
    clear hL
    obtain ⟨k, hk, rfl, rfl, hL⟩ := hrel
    by_cases hlt : k < N
    · have HS2 := HS.out.below hL.toBelow
      have HR2 := HR.out.below hL.toBelow
      obtain ⟨A2, cap2, hv2, _, _, hel⟩ := HS2
      obtain ⟨A3, cap3, hv3, _, _, hel3⟩ := HR2
      injection hv2 with hA hn2 hc2
      injection hv3 with hA' hn3 hc3
      obtain ⟨s, hs⟩ : ∃ s, l[k]? = some s := ⟨_, List.getElem?_eq_getElem (by have := HN.out; omega)⟩
      have hmap : (l.map Sk.cells)[k]? = some s.cells := by rw [List.getElem?_map, hs]; rfl
      obtain ⟨hcl, b, off, hA2, hcell⟩ := hel k _ hmap
      obtain ⟨_, b', off', hA3, hcell3⟩ := hel3 k _ hmap
      have HC := Lib.hid hcell
      have HC3 := Lib.hid hcell3
      obtain rfl : A = some ⟨b, off, none⟩ := hA.trans hA2
      obtain rfl : A' = some ⟨b', off', none⟩ := hA'.trans hA3
      clear hel hel3 hmap hs hA hA' hn2 hn3 hc2 hc3 hA2 hA3 hcell hcell3
      have hi1 : (k : Int) < (N : Int) := by omega
      go_wp2
      refine' Calm.wp_region_calm_lit [.inl _, .inl _, .inl _, .inl _, .inl _, .inl _, .inl _, .inl _, .inl (.bool true), .inl _] (by kernel_rfl) (by kernel_rfl) (by kernel_rfl) ?_
      rotate_left 9
      refine lex_move rfl rfl (by simp only [Act.eval, Array.getD_eq_getD_getElem?, List.getElem?_toArray, List.getElem?_cons_zero, List.getElem?_cons_succ, Option.getD_some]; rfl) rfl ?_
      (try simp only [Act.put, Act.eval, Array.getD_eq_getD_getElem?, List.setIfInBounds_toArray, List.set_cons_zero, List.set_cons_succ, List.getElem?_toArray, List.getElem?_cons_zero, List.getElem?_cons_succ, Option.getD_some, List.getElem_toArray, List.getElem_cons_zero, List.getElem_cons_succ])
      refine lex_move rfl rfl (by simp only [Act.eval, Array.getD_eq_getD_getElem?, List.getElem?_toArray, List.getElem?_cons_zero, List.getElem?_cons_succ, Option.getD_some]; rfl) rfl ?_
      (try simp only [Act.put, Act.eval, Array.getD_eq_getD_getElem?, List.setIfInBounds_toArray, List.set_cons_zero, List.set_cons_succ, List.getElem?_toArray, List.getElem?_cons_zero, List.getElem?_cons_succ, Option.getD_some, List.getElem_toArray, List.getElem_cons_zero, List.getElem_cons_succ])
      refine lex_pure rfl rfl (by intro w'; go_simp; (try go_bits); rfl) ?_
      (try simp only [Act.put, Act.eval, Array.getD_eq_getD_getElem?, List.setIfInBounds_toArray, List.set_cons_zero, List.set_cons_succ, List.getElem?_toArray, List.getElem?_cons_zero, List.getElem?_cons_succ, Option.getD_some, List.getElem_toArray, List.getElem_cons_zero, List.getElem_cons_succ])
      refine lex_loadA _ rfl rfl (by kernel_rfl) rfl (c := s.cells) HC.out rfl (by kernel_rfl) (by rfl) rfl ?_
      (try simp only [Act.put, Act.eval, Array.getD_eq_getD_getElem?, List.setIfInBounds_toArray, List.set_cons_zero, List.set_cons_succ, List.getElem?_toArray, List.getElem?_cons_zero, List.getElem?_cons_succ, Option.getD_some, List.getElem_toArray, List.getElem_cons_zero, List.getElem_cons_succ])
      refine lex_move rfl rfl (by simp only [Act.eval, Array.getD_eq_getD_getElem?, List.getElem?_toArray, List.getElem?_cons_zero, List.getElem?_cons_succ, Option.getD_some]; rfl) rfl ?_
      (try simp only [Act.put, Act.eval, Array.getD_eq_getD_getElem?, List.setIfInBounds_toArray, List.set_cons_zero, List.set_cons_succ, List.getElem?_toArray, List.getElem?_cons_zero, List.getElem?_cons_succ, Option.getD_some, List.getElem_toArray, List.getElem_cons_zero, List.getElem_cons_succ])
      refine lex_move rfl rfl (by simp only [Act.eval, Array.getD_eq_getD_getElem?, List.getElem?_toArray, List.getElem?_cons_zero, List.getElem?_cons_succ, Option.getD_some]; rfl) rfl ?_
      (try simp only [Act.put, Act.eval, Array.getD_eq_getD_getElem?, List.setIfInBounds_toArray, List.set_cons_zero, List.set_cons_succ, List.getElem?_toArray, List.getElem?_cons_zero, List.getElem?_cons_succ, Option.getD_some, List.getElem_toArray, List.getElem_cons_zero, List.getElem_cons_succ])
      refine lex_pure rfl rfl (by intro w'; go_simp; (try go_bits); rfl) ?_
      (try simp only [Act.put, Act.eval, Array.getD_eq_getD_getElem?, List.setIfInBounds_toArray, List.set_cons_zero, List.set_cons_succ, List.getElem?_toArray, List.getElem?_cons_zero, List.getElem?_cons_succ, Option.getD_some, List.getElem_toArray, List.getElem_cons_zero, List.getElem_cons_succ])
      refine lex_loadA _ rfl rfl (by kernel_rfl) rfl (c := s.cells) HC3.out rfl (by kernel_rfl) (by rfl) rfl ?_
      (try simp only [Act.put, Act.eval, Array.getD_eq_getD_getElem?, List.setIfInBounds_toArray, List.set_cons_zero, List.set_cons_succ, List.getElem?_toArray, List.getElem?_cons_zero, List.getElem?_cons_succ, Option.getD_some, List.getElem_toArray, List.getElem_cons_zero, List.getElem_cons_succ])
      refine lex_call Try.func181 (by kernel_rfl) rfl rfl rfl (by simp only [List.map_toArray, List.map_cons, List.map_nil, Act.eval, Array.getD_eq_getD_getElem?, List.getElem?_toArray, List.getElem?_cons_zero, List.getElem?_cons_succ, Option.getD_some]; try rfl) rfl (fun w' hb => eqStake_same s.x s.y s.r _) ?_
      (try simp only [Act.put, Act.eval, Array.getD_eq_getD_getElem?, List.setIfInBounds_toArray, List.set_cons_zero, List.set_cons_succ, List.getElem?_toArray, List.getElem?_cons_zero, List.getElem?_cons_succ, Option.getD_some, List.getElem_toArray, List.getElem_cons_zero, List.getElem_cons_succ])
      refine lex_pure rfl rfl (by intro w'; go_simp; (try go_bits); rfl) ?_
      (try simp only [Act.put, Act.eval, Array.getD_eq_getD_getElem?, List.setIfInBounds_toArray, List.set_cons_zero, List.set_cons_succ, List.getElem?_toArray, List.getElem?_cons_zero, List.getElem?_cons_succ, Option.getD_some, List.getElem_toArray, List.getElem_cons_zero, List.getElem_cons_succ])
      intro wc hH
      replace hL := hL.ext hH.below
      clear hH
      go_wp2
      go_roundg (N - (k + 1))
      case measure => omega
      case rel => exact ⟨k + 1, by omega, rfl, by go_num, hL⟩
    · go_wp2
      go_ret
      exact ⟨rfl, hL.toBelow⟩

end Go.Proofs.Ytfefkkpcjcnmcaa
