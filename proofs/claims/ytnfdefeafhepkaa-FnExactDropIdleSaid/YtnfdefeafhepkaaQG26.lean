import Derived.Test.YtnfdefeafhepkaaQG21
import Derived.Test.YtnfdefeafhepkaaQG25
/- The yards of a pasture: the program's. No condition but a valid pasture. -/
namespace Go.Proofs.Ytnfdefeafhepkaa
set_option linter.unusedVariables false
set_option linter.unusedSimpArgs false
open Go.RowKit Mem Wk
open Classical
attribute [local irreducible] Calls Wk.S Wk.C Wk.E Wk.X Wk.T Wk.Y Wk.anV Wk.orV Wk.andV Wk.shlV Wk.shrV Calm.wpLex CalmB.wpLex bfsN
noncomputable def seen2 (Y : List (List Sp)) (l : List Sp) (u : Sp) : Option Value := if inY Y u = true ∨ u ∈ l then some (.bool true) else none
theorem seen2_snoc (Y : List (List Sp)) (l : List Sp) (c u : Sp) : (if u = c then some (.bool true) else seen2 Y l u) = seen2 Y (l ++ [c]) u := by
  unfold seen2
  by_cases h : u = c
  · subst h; simp
  · simp [h]
theorem seen2_next (Y : List (List Sp)) (l : List Sp) (u : Sp) : seen2 Y l u = seen2 (Y ++ [l]) [] u := by
  unfold seen2 inY; simp
theorem uMapB : Try.prog.underlying 182 = some (.map 66 4) := by kernel_rfl
theorem zBoolV (w : World) : (zeroValue 4).run Try.prog w = .ok (.bool false) w := by kernel_rfl
structure YI where
  k : Nat
  g : Nat
  cap : Nat
  cur : Array Value
  items : List (Nat × Nat × Array Value)
  w : World
  ob : Obj
structure YJ where
  j : Nat
  w : World
  ob : Obj
set_option maxRecDepth 100000 in
set_option maxHeartbeats 1600000 in
theorem yards_any (p : Nat → Int) (cs : Array Value) (w : World) (hp : Pv p cs) (hv : validP p = true) :
    Calls Try.prog 110 #[.agg cs] w (NewSS (ydP p) w) := by
  have hsz := hp.size
  obtain ⟨hW, hH, hW10, hH10⟩ := validP_dims hv
  have ha : p 0 ≤ 10 := by omega
  have hb : p 1 ≤ 10 := by omega
  have hcel := fun k hk => cellN_cel (p := p) (k := k) hW hH hW10 hH10 hk
  have hyard := fun c hc w => yard_any p cs c w hp ha hb hc
  have hall := fun w => all_any p cs (p 0).toNat (p 1).toNat w hp hW hH hW10 hH10
  have hHW : (p 1).toNat * (p 0).toNat ≤ 10 * 10 := Nat.mul_le_mul hH10 hW10
  unfold ydP
  generalize (p 0).toNat = W at *
  generalize (p 1).toNat = H at *
  refine enter1 Try.func110 rfl rfl rfl (Own.start w) ?_
  repeat' (first
    | (refine s_g ?_; first
      | (refine s_k 0 rfl ?_; refine s_val rfl rfl rfl (r_move rfl rfl) ?_)
      | (refine s_k 8 rfl ?_; first | (refine' s_val rfl rfl rfl (r_ldv rfl rfl ?qm ?qv) ?_; (case qm => (exact zMm)); (case qv => (exact zLe))) | (refine' s_val rfl rfl rfl (r_ldo rfl rfl ?qw (by simp) ?qv) ?_; (case qw => assumption); (case qv => (exact zLe))))
      | (refine s_k 1 rfl ?_; refine s_val rfl rfl rfl (r_assign rfl rfl) ?_)
      | (refine s_k 13 rfl ?_; first | refine s_val rfl rfl rfl (r_lss rfl rfl rfl) ?_ | refine s_val rfl rfl rfl (r_add rfl rfl rfl (wrap_in (by simp only [lo, hi]; omega))) ?_)
      | (refine s_k 35 rfl ?_; (refine s_callN Try.func68 (by kernel_rfl) rfl rfl rfl rfl rfl rfl (fun w hL => hall w) fun gl kl capl curl hAl => ?_))
      | (refine s_k 25 rfl ?_; first | refine s_val rfl rfl rfl (r_ixN tb rfl rfl rfl rfl (by omega)) ?_ | refine s_val rfl rfl rfl (r_ixA tb rfl rfl rfl rfl (by omega) (by omega)) ?_ | refine s_val rfl rfl rfl (r_ixO tb rfl rfl rfl rfl (by omega)) ?_)
      | (refine s_k 4 rfl ?_; first | refine s_boxA rfl rfl rfl rfl rfl fun blk => ?_ | refine s_box1 rfl rfl rfl rfl rfl rfl fun blk => ?_)
      | (refine s_k 9 rfl ?_; (first | refine s_st1 tb rfl rfl rfl rfl rfl rfl rfl rfl ?_ | refine s_stA tb rfl rfl rfl rfl (by first | rfl | assumption | (apply Pv.size; assumption)) rfl rfl ?_); (first | refine' st0 ?qs ?_ | refine' st1 ?qs ?_ | refine' st2 ?qs ?_ | refine' st3 ?qs ?_ | refine' st4 ?qs ?_ | refine' st5 ?qs ?_ | refine' st6 ?qs ?_ | refine' st7 ?qs ?_ | refine' st8 ?qs ?_ | refine' st9 ?qs ?_ | refine' st10 ?qs ?_ | refine' st11 ?qs ?_); (case qs => (first | exact zSet)))
      | (refine s_k 36 rfl ?_; refine s_val rfl rfl rfl (r_len tb rfl rfl rfl) ?_)
      | (refine s_k 19 rfl ?_; refine s_mkMap rfl rfl rfl rfl (fun b w1 hB1 hsz1 hlt1 hge1 hget1 => ?_) rfl)
      | (refine s_k 6 rfl ?_; refine s_bsl rfl rfl (fun w => slSS0 w) rfl rfl rfl fun blk => ?_)
      | refine s_nil ?_)
    | (refine c_g ?_; first | refine c_seq ?_ | refine c_region ?_ | (refine c_gc ?_; first | refine c_cond1 rfl zTr ?_ | refine c_cond0 rfl zTr ?_ | refine z_condd1 rfl ?_ | refine z_condd0 rfl ?_ | refine z_conddn1 rfl ?_ | refine z_conddn0 rfl ?_ | refine c_condd rfl (fun hc => ?_) (fun hc => ?_) | refine c_conddn rfl (fun hc => ?_) (fun hc => ?_) | refine c_condn rfl (fun hc => ?_) (fun hc => ?_) | refine c_cond rfl (fun hc => ?_) (fun hc => ?_)) | refine c_block ?_ | refine c_skip ?_ | refine c_exit ?_ | refine c_ret ?_)
    | (refine e_g ?_; first | refine e_then ?_ | refine e_blkn ?_ | refine e_thenx ?_ | refine e_thenr ?_ | refine e_blkr ?_ | refine e_blkx ?_ | refine e_blky rfl ?_))
  rename_i b1
  have hMB : MB w (List.map (·.1) [(blk, 38, #[]), (b1, 36, cs)]) w1 b (.map #[] 0) := ⟨hB1, fun k hk => by
    obtain ⟨x, hx, rfl⟩ := List.mem_map.1 hk
    exact (hge1 x hx).resolve_right (by simp), hget1, fun hk => by have := hlt1 b hk; omega, by have := hB1.size; have := hlt1 blk (by simp); have h3 := hge1 (blk, _, _) List.mem_cons_self; simp at h3; omega⟩
  obtain rfl : kl = H * W := by have := hAl.cnt; rw [allL_len] at this; exact this
  refine c_loopX (fun i : YI => H * W - i.k) (fun i => i.k ≤ H * W ∧ Ap 1 (ydS p W i.k).length i.cap i.cur (itV (ydS p W i.k) i.items) ∧ ItOk (ydS p W i.k) i.items ∧ MapIs i.ob (seen2 (ydS p W i.k) []) ∧ MB w (List.map (·.1) ((i.g, 38, i.cur) :: (gl, 66, curl) :: (b1, 36, cs) :: itR i.items)) i.w b i.ob) (fun i => i.w) (fun i => [(15, .int .i64 (i.k : Int)), (14, .int .i64 ((H * W : Nat) : Int)), (13, .slice (some ⟨gl, 0, none⟩) (H * W) capl), (4, .map (some b)), (3, .slice (some ⟨i.g, 0, none⟩) (ydS p W i.k).length i.cap), (1, .pointer (some ⟨b1, 0, none⟩))]) (fun i => (i.g, 38, i.cur) :: (gl, 66, curl) :: (b1, 36, cs) :: itR i.items) (fun w2 hK => ⟨⟨0, blk, 0, #[], [], w2, .map #[] 0⟩, [], ⟨by simp, by simpa [ydS, itV] using Ap.nil 1, ⟨rfl, fun j s i h => by simp [ydS] at h⟩, MapIs.new.congr (fun u => by simp [seen2, inY, ydS]), hMB.stepP (R := []) hK (List.Perm.swap _ _ _)⟩, rfl, ?hs, List.Perm.swap _ _ _⟩) ?_
  case hs => (repeat' (first | exact sub_nil | refine sub_cons rfl ?_))
  rintro ⟨k, g, cap, cur, items, w1, ob⟩ ⟨hk, hA, hI, hM, hB⟩
  simp only [ofL] at hk hA hI hM hB ⊢
  have hyl := ydS_len p W k
  by_cases hlt : k < H * W
  · have hsp := hAl.spot (allL_get hlt)
    have hc := hcel k hlt
    have hyes := ydS_yes (p := p) (W := W) (m := k)
    have hno := ydS_no (p := p) (W := W) (m := k)
    have hylen := yardL_len (p := p) (o := cellN W k) ha hb hc
    have hyd := hyard _ hc
    generalize cellN W k = c at *
    cases hin : inY (ydS p W k) c
    case true =>
      have hst := hyes hin
      have hlk : (seen2 (ydS p W k) [] c).getD (.bool false) = .bool true := by unfold seen2; rw [if_pos (Or.inl hin)]; rfl
      repeat' (first
        | (refine s_g ?_; first
      | (refine s_k 0 rfl ?_; refine s_val rfl rfl rfl (r_move rfl rfl) ?_)
      | (refine s_k 8 rfl ?_; first | refine s_val rfl rfl rfl (r_ldN tb rfl rfl m1 rfl hsp.1 hsp.2) ?_ | (refine' s_val rfl rfl rfl (r_ldv rfl rfl ?qm ?qv) ?_; (case qm => (exact zMm)); (case qv => (exact zLe))) | (refine' s_val rfl rfl rfl (r_ldo rfl rfl ?qw (by simp) ?qv) ?_; (case qw => assumption); (case qv => (exact zLe))))
      | (refine s_k 1 rfl ?_; refine s_val rfl rfl rfl (r_assign rfl rfl) ?_)
      | (refine s_k 13 rfl ?_; first | refine s_val rfl rfl rfl (r_lss rfl rfl rfl) ?_ | refine s_val rfl rfl rfl (r_add rfl rfl rfl (wrap_in (by simp only [lo, hi]; omega))) ?_)
      | (refine s_k 25 rfl ?_; first | refine s_val rfl rfl rfl (r_ixO tb rfl rfl rfl rfl hlt) ?_ | refine s_val rfl rfl rfl (r_ixN tb rfl rfl rfl rfl (by omega)) ?_ | refine s_val rfl rfl rfl (r_ixA tb rfl rfl rfl rfl (by omega) (by omega)) ?_ | refine s_val rfl rfl rfl (r_ixO tb rfl rfl rfl rfl (by omega)) ?_)
      | (refine s_k 4 rfl ?_; first | refine s_boxA rfl rfl rfl rfl rfl fun blk => ?_ | refine s_box1 rfl rfl rfl rfl rfl rfl fun blk => ?_)
      | (refine s_k 9 rfl ?_; (first | refine s_st1 tb rfl rfl rfl rfl rfl rfl rfl rfl ?_ | refine s_stA tb rfl rfl rfl rfl (by first | rfl | assumption | (apply Pv.size; assumption)) rfl rfl ?_); (first | refine' st0 ?qs ?_ | refine' st1 ?qs ?_ | refine' st2 ?qs ?_ | refine' st3 ?qs ?_ | refine' st4 ?qs ?_ | refine' st5 ?qs ?_ | refine' st6 ?qs ?_ | refine' st7 ?qs ?_ | refine' st8 ?qs ?_ | refine' st9 ?qs ?_ | refine' st10 ?qs ?_ | refine' st11 ?qs ?_); (case qs => (first | exact set_whole (vs := c.cells.toArray) rfl (by simp [Sp.cells, Value.oneCell']) | exact zSet)))
      | (refine s_k 3 rfl ?_; refine s_allocA (t := 66) rfl zImplSpot rfl rfl rfl fun blk => ?_)
      | (refine s_k 36 rfl ?_; refine s_val rfl rfl rfl (r_len tb rfl rfl rfl) ?_)
      | (refine s_k 27 rfl ?_; refine s_val rfl rfl rfl (r_lkp (s := c) rfl rfl rfl uMapB zBoolV hB.get hB.notin hM hlk) ?_)
      | refine s_nil ?_)
        | (refine c_g ?_; first | refine c_seq ?_ | refine c_region ?_ | (refine c_gc ?_; first | refine c_cond1 rfl zTr ?_ | refine c_cond0 rfl zTr ?_ | refine z_condd1 rfl ?_ | refine z_condd0 rfl ?_ | refine z_conddn1 rfl ?_ | refine z_conddn0 rfl ?_ | refine c_condd rfl (fun hc => ?_) (fun hc => ?_) | refine c_conddn rfl (fun hc => ?_) (fun hc => ?_) | refine c_condn rfl (fun hc => ?_) (fun hc => ?_) | refine c_cond rfl (fun hc => ?_) (fun hc => ?_)) | refine c_block ?_ | refine c_skip ?_ | refine c_exit ?_ | refine c_ret ?_)
        | (refine e_g ?_; first | refine e_then ?_ | refine e_blkn ?_ | refine e_thenx ?_ | refine e_thenr ?_ | refine e_blkr ?_ | refine e_blkx ?_ | refine e_blky rfl ?_)
        | (refine e_roundX fun w2 hK => ⟨⟨k + 1, g, cap, cur, items, w2, ob⟩, [(_, _, _)], by simp; omega, ⟨by simp; omega, by simp only [hst]; exact hA, by simp only [hst]; exact hI, by simp only [hst]; exact hM, hB.stepP (R := [(_, _, _)]) hK (List.Perm.refl _)⟩, rfl, ?_, List.Perm.refl _⟩))
      all_goals (simp only [hst]; (repeat' (first | exact sub_nil | refine sub_cons rfl ?_)))
    case false =>
      have hst := hno hin
      have hlk : (seen2 (ydS p W k) [] c).getD (.bool false) = .bool false := by unfold seen2; rw [if_neg (by simp [hin])]; rfl
      clear hyes hno
      generalize yardL p c = yd at *
      generalize hYY : ydS p W k = Y at *
      repeat' (first
        | (refine s_g ?_; first
      | (refine s_k 0 rfl ?_; refine s_val rfl rfl rfl (r_move rfl rfl) ?_)
      | (refine s_k 8 rfl ?_; first | refine s_val rfl rfl rfl (r_ldN tb rfl rfl m1 rfl hsp.1 hsp.2) ?_ | (refine' s_val rfl rfl rfl (r_ldv rfl rfl ?qm ?qv) ?_; (case qm => (exact zMm)); (case qv => (exact zLe))) | (refine' s_val rfl rfl rfl (r_ldo rfl rfl ?qw (by simp) ?qv) ?_; (case qw => assumption); (case qv => (exact zLe))))
      | (refine s_k 1 rfl ?_; refine s_val rfl rfl rfl (r_assign rfl rfl) ?_)
      | (refine s_k 13 rfl ?_; first | refine s_val rfl rfl rfl (r_lss rfl rfl rfl) ?_ | refine s_val rfl rfl rfl (r_add rfl rfl rfl (wrap_in (by simp only [lo, hi]; omega))) ?_)
      | (refine s_k 35 rfl ?_; (refine s_callN Try.func135 (by kernel_rfl) rfl rfl rfl rfl rfl rfl (fun w hL => hyd w) fun gy ky cpy cuy hAy => ?_; obtain rfl := hAy.cnt))
      | (refine s_k 25 rfl ?_; first | refine s_val rfl rfl rfl (r_ixO tb rfl rfl rfl rfl hlt) ?_ | refine s_val rfl rfl rfl (r_ixN tb rfl rfl rfl rfl (by omega)) ?_ | refine s_val rfl rfl rfl (r_ixA tb rfl rfl rfl rfl (by omega) (by omega)) ?_ | refine s_val rfl rfl rfl (r_ixO tb rfl rfl rfl rfl (by omega)) ?_)
      | (refine s_k 4 rfl ?_; first | refine s_boxA rfl rfl rfl rfl rfl fun blk => ?_ | refine s_box1 rfl rfl rfl rfl rfl rfl fun blk => ?_)
      | (refine s_k 9 rfl ?_; (first | refine s_st1 tb rfl rfl rfl rfl rfl rfl rfl rfl ?_ | refine s_stA tb rfl rfl rfl rfl (by first | rfl | assumption | (apply Pv.size; assumption)) rfl rfl ?_); (first | refine' st0 ?qs ?_ | refine' st1 ?qs ?_ | refine' st2 ?qs ?_ | refine' st3 ?qs ?_ | refine' st4 ?qs ?_ | refine' st5 ?qs ?_ | refine' st6 ?qs ?_ | refine' st7 ?qs ?_ | refine' st8 ?qs ?_ | refine' st9 ?qs ?_ | refine' st10 ?qs ?_ | refine' st11 ?qs ?_); (case qs => (first | exact set_whole (vs := c.cells.toArray) rfl (by simp [Sp.cells, Value.oneCell']) | exact zSet)))
      | (refine s_k 3 rfl ?_; refine s_allocA (t := 66) rfl zImplSpot rfl rfl rfl fun blk => ?_)
      | (refine s_k 36 rfl ?_; refine s_val rfl rfl rfl (r_len tb rfl rfl rfl) ?_)
      | (refine s_k 27 rfl ?_; refine s_val rfl rfl rfl (r_lkp (s := c) rfl rfl rfl uMapB zBoolV hB.get hB.notin hM hlk) ?_)
      | refine s_nil ?_)
        | (refine c_g ?_; first | refine c_seq ?_ | refine c_region ?_ | (refine c_gc ?_; first | refine c_cond1 rfl zTr ?_ | refine c_cond0 rfl zTr ?_ | refine z_condd1 rfl ?_ | refine z_condd0 rfl ?_ | refine z_conddn1 rfl ?_ | refine z_conddn0 rfl ?_ | refine c_condd rfl (fun hc => ?_) (fun hc => ?_) | refine c_conddn rfl (fun hc => ?_) (fun hc => ?_) | refine c_condn rfl (fun hc => ?_) (fun hc => ?_) | refine c_cond rfl (fun hc => ?_) (fun hc => ?_)) | refine c_block ?_ | refine c_skip ?_ | refine c_exit ?_ | refine c_ret ?_)
        | (refine e_g ?_; first | refine e_then ?_ | refine e_blkn ?_ | refine e_thenx ?_ | refine e_thenr ?_ | refine e_blkr ?_ | refine e_blkx ?_ | refine e_blky rfl ?_))
      revert blk; intro b6
      refine c_loopX (fun i : YJ => yd.length - i.j) (fun i => i.j ≤ yd.length ∧ MapIs i.ob (seen2 Y (yd.take i.j)) ∧ MB w (List.map (·.1) ((gy, 66, cuy) :: (b6, 66, #[.int .i8 c.x, .int .i8 c.y]) :: (g, 38, cur) :: (gl, 66, curl) :: (b1, 36, cs) :: itR items)) i.w b i.ob) (fun i => i.w) (fun i => [(27, .int .i64 (i.j : Int)), (26, .int .i64 (yd.length : Int)), (25, .slice (some ⟨gy, 0, none⟩) yd.length cpy), (7, .slice (some ⟨gy, 0, none⟩) yd.length cpy), (15, .int .i64 (k : Int)), (14, .int .i64 ((H * W : Nat) : Int)), (13, .slice (some ⟨gl, 0, none⟩) (H * W) capl), (4, .map (some b)), (3, .slice (some ⟨g, 0, none⟩) Y.length cap), (1, .pointer (some ⟨b1, 0, none⟩))]) (fun i => (gy, 66, cuy) :: (b6, 66, #[.int .i8 c.x, .int .i8 c.y]) :: (g, 38, cur) :: (gl, 66, curl) :: (b1, 36, cs) :: itR items) (fun w2 hK => ⟨⟨0, w2, ob⟩, [], ⟨by simp, by simpa using hM, hB.stepP (R := []) hK (List.Perm.refl _)⟩, rfl, ?hs, List.Perm.refl _⟩) ?_
      case hs => (repeat' (first | exact sub_nil | refine sub_cons rfl ?_))
      rintro ⟨j, w1, ob⟩ ⟨hj, hM, hB⟩
      simp only [ofL] at hj hM hB ⊢
      by_cases hlt2 : j < yd.length
      · have hx : yd[j]? = some yd[j] := List.getElem?_eq_getElem hlt2
        have hsp2 := hAy.spot hx
        have htk : yd.take (j + 1) = yd.take j ++ [yd[j]] := by rw [List.take_add_one, hx]; rfl
        generalize yd[j] = e at *
        repeat' (first
          | (refine s_g ?_; first
      | (refine s_k 0 rfl ?_; refine s_val rfl rfl rfl (r_move rfl rfl) ?_)
      | (refine s_k 8 rfl ?_; first | refine s_val rfl rfl rfl (r_ldN tb rfl rfl m0 rfl hsp2.1 hsp2.2) ?_ | (refine' s_val rfl rfl rfl (r_ldv rfl rfl ?qm ?qv) ?_; (case qm => (exact zMm)); (case qv => (exact zLe))) | (refine' s_val rfl rfl rfl (r_ldo rfl rfl ?qw (by simp) ?qv) ?_; (case qw => assumption); (case qv => (exact zLe))))
      | (refine s_k 1 rfl ?_; refine s_val rfl rfl rfl (r_assign rfl rfl) ?_)
      | (refine s_k 13 rfl ?_; first | refine s_val rfl rfl rfl (r_lss rfl rfl rfl) ?_ | refine s_val rfl rfl rfl (r_add rfl rfl rfl (wrap_in (by simp only [lo, hi]; omega))) ?_)
      | (refine s_k 25 rfl ?_; first | refine s_val rfl rfl rfl (r_ixO tb rfl rfl rfl rfl hlt2) ?_ | refine s_val rfl rfl rfl (r_ixN tb rfl rfl rfl rfl (by omega)) ?_ | refine s_val rfl rfl rfl (r_ixA tb rfl rfl rfl rfl (by omega) (by omega)) ?_ | refine s_val rfl rfl rfl (r_ixO tb rfl rfl rfl rfl (by omega)) ?_)
      | (refine s_k 4 rfl ?_; first | refine s_boxA rfl rfl rfl rfl rfl fun blk => ?_ | refine s_box1 rfl rfl rfl rfl rfl rfl fun blk => ?_)
      | (refine s_k 9 rfl ?_; (first | refine s_st1 tb rfl rfl rfl rfl rfl rfl rfl rfl ?_ | refine s_stA tb rfl rfl rfl rfl (by first | rfl | assumption | (apply Pv.size; assumption)) rfl rfl ?_); (first | refine' st0 ?qs ?_ | refine' st1 ?qs ?_ | refine' st2 ?qs ?_ | refine' st3 ?qs ?_ | refine' st4 ?qs ?_ | refine' st5 ?qs ?_ | refine' st6 ?qs ?_ | refine' st7 ?qs ?_ | refine' st8 ?qs ?_ | refine' st9 ?qs ?_ | refine' st10 ?qs ?_ | refine' st11 ?qs ?_); (case qs => (first | exact set_whole (vs := e.cells.toArray) rfl (by simp [Sp.cells, Value.oneCell']) | exact zSet)))
      | (refine s_k 3 rfl ?_; refine s_allocA (t := 66) rfl zImplSpot rfl rfl rfl fun blk => ?_)
      | (refine s_k 36 rfl ?_; refine s_val rfl rfl rfl (r_len tb rfl rfl rfl) ?_)
      | (refine s_k 28 rfl ?_; refine s_mapU (s := e) rfl rfl rfl rfl uMapB hB.get hB.notin hM rfl rfl fun ob' hM' => ?_)
      | refine s_nil ?_)
          | (refine c_g ?_; first | refine c_seq ?_ | refine c_region ?_ | (refine c_gc ?_; first | refine c_cond1 rfl zTr ?_ | refine c_cond0 rfl zTr ?_ | refine z_condd1 rfl ?_ | refine z_condd0 rfl ?_ | refine z_conddn1 rfl ?_ | refine z_conddn0 rfl ?_ | refine c_condd rfl (fun hc => ?_) (fun hc => ?_) | refine c_conddn rfl (fun hc => ?_) (fun hc => ?_) | refine c_condn rfl (fun hc => ?_) (fun hc => ?_) | refine c_cond rfl (fun hc => ?_) (fun hc => ?_)) | refine c_block ?_ | refine c_skip ?_ | refine c_exit ?_ | refine c_ret ?_)
          | (refine e_g ?_; first | refine e_then ?_ | refine e_blkn ?_ | refine e_thenx ?_ | refine e_thenr ?_ | refine e_blkr ?_ | refine e_blkx ?_ | refine e_blky rfl ?_)
          | (refine e_roundX fun w2 hK => ⟨⟨j + 1, w2, ob'⟩, [(_, _, _)], by simp; omega, ⟨by simp; omega, hM'.congr (fun u => by simp only [htk]; exact seen2_snoc _ _ _ _), hB.set.stepP (R := [(_, _, _)]) hK (List.Perm.refl _)⟩, rfl, ?_, List.Perm.refl _⟩))
        all_goals (repeat' (first | exact sub_nil | refine sub_cons rfl ?_))
      · have hjl : j = yd.length := by omega
        subst hjl
        rw [List.take_length] at hM
        repeat' (first
          | (refine s_g ?_; first
      | (refine s_k 0 rfl ?_; refine s_val rfl rfl rfl (r_move rfl rfl) ?_)
      | (refine s_k 8 rfl ?_; first | (refine' s_val rfl rfl rfl (r_ldv rfl rfl ?qm ?qv) ?_; (case qm => (exact zMm)); (case qv => (exact zLe))) | (refine' s_val rfl rfl rfl (r_ldo rfl rfl ?qw (by simp) ?qv) ?_; (case qw => assumption); (case qv => (exact zLe))))
      | (refine s_k 1 rfl ?_; refine s_val rfl rfl rfl (r_assign rfl rfl) ?_)
      | (refine s_k 13 rfl ?_; first | refine s_val rfl rfl rfl (r_lss rfl rfl rfl) ?_ | refine s_val rfl rfl rfl (r_add rfl rfl rfl (wrap_in (by simp only [lo, hi]; omega))) ?_)
      | (refine s_k 25 rfl ?_; first | refine s_val rfl rfl rfl (r_ixN tb rfl rfl rfl rfl (by omega)) ?_ | refine s_val rfl rfl rfl (r_ixA tb rfl rfl rfl rfl (by omega) (by omega)) ?_ | refine s_val rfl rfl rfl (r_ixO tb rfl rfl rfl rfl (by omega)) ?_)
      | (refine s_k 4 rfl ?_; first | refine s_boxA rfl rfl rfl rfl rfl fun blk => ?_ | refine s_box1 rfl rfl rfl rfl rfl rfl fun blk => ?_)
      | (refine s_k 9 rfl ?_; (first | refine s_st1 tb rfl rfl rfl rfl rfl rfl rfl rfl ?_ | refine s_stA tb rfl rfl rfl rfl (by first | rfl | assumption | (apply Pv.size; assumption)) rfl rfl ?_); (first | refine' st0 ?qs ?_ | refine' st1 ?qs ?_ | refine' st2 ?qs ?_ | refine' st3 ?qs ?_ | refine' st4 ?qs ?_ | refine' st5 ?qs ?_ | refine' st6 ?qs ?_ | refine' st7 ?qs ?_ | refine' st8 ?qs ?_ | refine' st9 ?qs ?_ | refine' st10 ?qs ?_ | refine' st11 ?qs ?_); (case qs => (first | exact zSet)))
      | (refine s_k 36 rfl ?_; first | refine s_appX (c2 := #[_]) (pre := [_, _, _]) rfl uSS iSS rfl (by omega) hA rfl rfl List.mem_cons_self rfl rfl (by simp [Value.oneCell']) (by unfold maxLen; omega) (by omega) rfl rfl rfl fun w3 g' cap' cur' hK3 hA' => ?_ | refine s_val rfl rfl rfl (r_len tb rfl rfl rfl) ?_)
      | (refine s_k 6 rfl ?_; refine s_bsl rfl rfl (fun w => slSS1 _ _ _ w) rfl rfl rfl fun blk => ?_)
      | refine s_nil ?_)
          | (refine c_g ?_; first | refine c_seq ?_ | refine c_region ?_ | (refine c_gc ?_; first | refine c_cond1 rfl zTr ?_ | refine c_cond0 rfl zTr ?_ | refine z_condd1 rfl ?_ | refine z_condd0 rfl ?_ | refine z_conddn1 rfl ?_ | refine z_conddn0 rfl ?_ | refine c_condd rfl (fun hc => ?_) (fun hc => ?_) | refine c_conddn rfl (fun hc => ?_) (fun hc => ?_) | refine c_condn rfl (fun hc => ?_) (fun hc => ?_) | refine c_cond rfl (fun hc => ?_) (fun hc => ?_)) | refine c_block ?_ | refine c_skip ?_ | refine c_exit ?_ | refine c_ret ?_)
          | (refine e_g ?_; first | refine e_then ?_ | refine e_blkn ?_ | refine e_thenx ?_ | refine e_thenr ?_ | refine e_blkr ?_ | refine e_blkx ?_ | refine e_blky rfl ?_)
          | fail)
        refine e_roundX fun w2 hK => ?_
        have hpm : ((blk, 38, #[Value.slice (some { block := gy, off := 0 }) yd.length cpy]) :: (gy, 66, cuy) :: (b6, 66, #[Value.int IntKind.i8 c.x, Value.int IntKind.i8 c.y]) :: (g', 38, cur') :: (gl, 66, curl) :: (b1, 36, cs) :: itR items).Perm ([(blk, 38, #[Value.slice (some { block := gy, off := 0 }) yd.length cpy]), (b6, 66, #[Value.int IntKind.i8 c.x, Value.int IntKind.i8 c.y])] ++ ((g', 38, cur') :: (gl, 66, curl) :: (b1, 36, cs) :: itR (items ++ [(gy, cpy, cuy)]))) := by
          rw [itR_snoc]; exact (List.perm_middle (l₁ := [_, _, _, _]) (a := (gy, 66, cuy)) (l₂ := itR items)).symm.cons _
        refine ⟨⟨k + 1, g', cap', cur', items ++ [(gy, cpy, cuy)], w2, ob⟩, _, by simp; omega, ⟨by simp; omega, ?_, ?_, ?_, (hB.step hK3 (fun x hx => hx)).stepP hK hpm⟩, rfl, ?hs, hpm⟩
        · simp only [hst]; rw [itV_snoc hI.len]; simpa using hA'
        · simp only [hst]; exact hI.snoc hAy
        · simp only [hst]; exact hM.congr (fun u => seen2_next _ _ _)
        · simp only [hst]; (repeat' (first | exact sub_nil | refine sub_cons rfl ?_ | refine sub_cons' rfl (by simp) ?_))
  · have hkl : k = H * W := by omega
    subst hkl
    repeat' (first
      | (refine s_g ?_; first
      | (refine s_k 0 rfl ?_; refine s_val rfl rfl rfl (r_move rfl rfl) ?_)
      | (refine s_k 8 rfl ?_; first | (refine' s_val rfl rfl rfl (r_ldv rfl rfl ?qm ?qv) ?_; (case qm => (exact zMm)); (case qv => (exact zLe))) | (refine' s_val rfl rfl rfl (r_ldo rfl rfl ?qw (by simp) ?qv) ?_; (case qw => assumption); (case qv => (exact zLe))))
      | (refine s_k 1 rfl ?_; refine s_val rfl rfl rfl (r_assign rfl rfl) ?_)
      | (refine s_k 13 rfl ?_; first | refine s_val rfl rfl rfl (r_lss rfl rfl rfl) ?_ | refine s_val rfl rfl rfl (r_add rfl rfl rfl (wrap_in (by simp only [lo, hi]; omega))) ?_)
      | (refine s_k 25 rfl ?_; first | refine s_val rfl rfl rfl (r_ixN tb rfl rfl rfl rfl (by omega)) ?_ | refine s_val rfl rfl rfl (r_ixA tb rfl rfl rfl rfl (by omega) (by omega)) ?_ | refine s_val rfl rfl rfl (r_ixO tb rfl rfl rfl rfl (by omega)) ?_)
      | (refine s_k 4 rfl ?_; first | refine s_boxA rfl rfl rfl rfl rfl fun blk => ?_ | refine s_box1 rfl rfl rfl rfl rfl rfl fun blk => ?_)
      | (refine s_k 9 rfl ?_; (first | refine s_st1 tb rfl rfl rfl rfl rfl rfl rfl rfl ?_ | refine s_stA tb rfl rfl rfl rfl (by first | rfl | assumption | (apply Pv.size; assumption)) rfl rfl ?_); (first | refine' st0 ?qs ?_ | refine' st1 ?qs ?_ | refine' st2 ?qs ?_ | refine' st3 ?qs ?_ | refine' st4 ?qs ?_ | refine' st5 ?qs ?_ | refine' st6 ?qs ?_ | refine' st7 ?qs ?_ | refine' st8 ?qs ?_ | refine' st9 ?qs ?_ | refine' st10 ?qs ?_ | refine' st11 ?qs ?_); (case qs => (first | exact zSet)))
      | (refine s_k 36 rfl ?_; refine s_val rfl rfl rfl (r_len tb rfl rfl rfl) ?_)
      | refine s_nil ?_)
      | (refine c_g ?_; first | refine c_seq ?_ | refine c_region ?_ | (refine c_gc ?_; first | refine c_cond1 rfl zTr ?_ | refine c_cond0 rfl zTr ?_ | refine z_condd1 rfl ?_ | refine z_condd0 rfl ?_ | refine z_conddn1 rfl ?_ | refine z_conddn0 rfl ?_ | refine c_condd rfl (fun hc => ?_) (fun hc => ?_) | refine c_conddn rfl (fun hc => ?_) (fun hc => ?_) | refine c_condn rfl (fun hc => ?_) (fun hc => ?_) | refine c_cond rfl (fun hc => ?_) (fun hc => ?_)) | refine c_block ?_ | refine c_skip ?_ | refine c_exit ?_ | refine c_ret ?_)
      | (refine e_g ?_; first | refine e_then ?_ | refine e_blkn ?_ | refine e_thenx ?_ | refine e_thenr ?_ | refine e_blkr ?_ | refine e_blkx ?_ | refine e_blky rfl ?_)
      | (refine e_ret1 (by simp) rfl (re_tmp rfl) fun w hL => ⟨g, cap, cur, items, rfl, hA, hI, ?_⟩))
    all_goals exact Kn.subl (hB.kn hL) (.cons_cons _ (.cons _ (.cons _ (List.Sublist.refl _))))
end Go.Proofs.Ytnfdefeafhepkaa
