import Derived.Test.YtnfdefeafhepkaaQG26
import Derived.Test.YtnfdefeafhepkaaQG27
/- The hurdles within one yard: the program's. No condition but a valid pasture. -/
namespace Go.Proofs.Ytnfdefeafhepkaa
set_option linter.unusedVariables false
set_option linter.unusedSimpArgs false
open Go.RowKit Mem Wk
open Classical
attribute [local irreducible] Calls Wk.S Wk.C Wk.E Wk.X Wk.T Wk.Y Wk.anV Wk.orV Wk.andV Wk.shlV Wk.shrV Calm.wpLex CalmB.wpLex bfsN
noncomputable def nmF (Y : List (List Sp)) (k : Nat) (l : List Sp) (u : Sp) : Option Value := if u ∈ l then some (.int .i64 (k : Int)) else (nmK Y k u).map fun i => .int .i64 (i : Int)
theorem nmF_snoc (Y : List (List Sp)) (k : Nat) (l : List Sp) (c u : Sp) : (if u = c then some (.int .i64 (k : Int)) else nmF Y k l u) = nmF Y k (l ++ [c]) u := by
  unfold nmF
  by_cases h : u = c
  · subst h; simp
  · simp [h]
theorem nmF_next (Y : List (List Sp)) (k : Nat) (l : List Sp) (u : Sp) (h : Y.getD k [] = l) : nmF Y k l u = nmF Y (k + 1) [] u := by
  unfold nmF
  rw [nmK, h]
  by_cases e : u ∈ l
  · rw [if_pos e, if_neg (by simp), if_pos e]; rfl
  · rw [if_neg e, if_neg (by simp), if_neg e]
theorem nmF_val (Y : List (List Sp)) (u : Sp) : (nmF Y Y.length [] u).getD (.int .i64 0) = .int .i64 (nmV Y u) := by
  unfold nmF nmV
  rw [if_neg (by simp)]
  cases nmK Y Y.length u <;> rfl
theorem uMapI : Try.prog.underlying 159 = some (.map 66 3) := by kernel_rfl
theorem zIntV (w : World) : (zeroValue 3).run Try.prog w = .ok (.int .i64 0) w := by kernel_rfl
theorem zMapI : (Try.prog.info? 159).map (·.zero) = some (some (.map none)) := by kernel_rfl
theorem Ap1_get {n cap : Nat} {cur : Array Value} {V : List Value} (h : Ap 1 n cap cur V) {k : Nat} {v : Value} (hk : V[k]? = some v) : cur[0 + k * 1 + 0]? = some v := by
  have h1 := h.take
  rw [Nat.mul_one] at h1
  have h2 : (cur.toList.take n)[k]? = some v := by rw [h1]; exact hk
  rw [List.getElem?_take] at h2
  split at h2
  · simpa using h2
  · cases h2
structure YK where
  k : Nat
  w : World
  ob : Obj
set_option maxRecDepth 100000 in
set_option maxHeartbeats 800000 in
theorem idClo_any (h : Hd) (Y : List (List Sp)) (T : TypeId) (gn b : Nat) (ob : Obj) (w : World) (hh : inR ⟨h.x, h.y⟩) (hg : w.heap[gn]? = some (.cells #[.map (some b)] T (0, 0))) (hb : w.heap[b]? = some ob) (hm : MapIs ob (nmF Y Y.length [])) :
    Calls Try.prog 113 #[.agg h.cells.toArray, .pointer (some ⟨gn, 0, none⟩)] w fun e w' => e = .returned (.bool (parts Y h)) ∧ Below w.heap.size w w' := by
  have hr : (0 ≤ h.x ∧ h.x < 10) ∧ 0 ≤ h.y ∧ h.y < 10 := ⟨⟨hh.1, hh.2.1⟩, hh.2.2⟩
  have hoth := fun w => other_any h.x h.y h.s w (by omega) (by omega)
  have h1 := nmF_val Y (atP h)
  have h2 := nmF_val Y (othP h)
  have hpt : parts Y h = !decide (nmV Y (atP h) = nmV Y (othP h)) := rfl
  generalize nmV Y (atP h) = va at *
  generalize nmV Y (othP h) = vb at *
  generalize parts Y h = B at *
  unfold Hd.cells
  refine enter2 Try.func113 rfl rfl rfl (Own.start w) ?_
  repeat' (first
    | (refine s_g ?_; first
      | (refine s_k 23 rfl ?_; first | refine s_val rfl rfl rfl (r_field tb rfl rfl rfl) ?_ | refine s_val rfl rfl rfl (r_fieldS tb rfl rfl rfl) ?_)
      | (refine s_k 8 rfl ?_; first | (refine' s_val rfl rfl rfl (r_ldv rfl rfl ?qm ?qv) ?_; (case qm => (exact zMm)); (case qv => (exact zLe))) | (refine' s_val rfl rfl rfl (r_ldo rfl rfl ?qw (by simp) ?qv) ?_; (case qw => assumption); (case qv => (exact zLe))))
      | (refine s_k 1 rfl ?_; refine s_val rfl rfl rfl (r_assign rfl rfl) ?_)
      | (refine s_k 13 rfl ?_; refine s_val rfl rfl rfl (r_neq rfl rfl rfl) ?_)
      | (refine s_k 35 rfl ?_; (refine s_call Try.func114 (by kernel_rfl) rfl rfl rfl rfl rfl rfl (fun w hL => hoth w) ?_))
      | (refine s_k 4 rfl ?_; first | refine s_boxA rfl rfl rfl rfl rfl fun blk => ?_ | refine s_box1 rfl rfl rfl rfl rfl rfl fun blk => ?_)
      | (refine s_k 27 rfl ?_; first | refine s_val rfl rfl rfl (r_lkp (s := atP h) rfl rfl rfl uMapI zIntV hb (by simp) hm h1) ?_ | refine s_val rfl rfl rfl (r_lkp (s := othP h) rfl rfl rfl uMapI zIntV hb (by simp) hm h2) ?_)
      | refine s_nil ?_)
    | (refine c_g ?_; first | refine c_seq ?_ | refine c_region ?_ | (refine c_gc ?_; first | refine c_cond1 rfl zTr ?_ | refine c_cond0 rfl zTr ?_ | refine z_condd1 rfl ?_ | refine z_condd0 rfl ?_ | refine z_conddn1 rfl ?_ | refine z_conddn0 rfl ?_ | refine c_condd rfl (fun hc => ?_) (fun hc => ?_) | refine c_conddn rfl (fun hc => ?_) (fun hc => ?_) | refine c_condn rfl (fun hc => ?_) (fun hc => ?_) | refine c_cond rfl (fun hc => ?_) (fun hc => ?_)) | refine c_block ?_ | refine c_skip ?_ | refine c_exit ?_ | refine c_ret ?_)
    | (refine e_g ?_; first | refine e_then ?_ | refine e_blkn ?_ | refine e_thenx ?_ | refine e_thenr ?_ | refine e_blkr ?_ | refine e_blkx ?_ | refine e_blky rfl ?_)
    | (refine x_g ?_; first
      | (refine x_k 23 rfl ?_; first | (refine x_val rfl rfl rfl (r_field tb rfl rfl rfl) ?hp ?_; (case hp => exact rfl)) | (refine x_val rfl rfl rfl (r_fieldS tb rfl rfl rfl) ?hp ?_; (case hp => exact rfl)))
      | (refine x_k 8 rfl ?_; first | (refine' x_val rfl rfl rfl (r_ldv rfl rfl ?qm ?qv) ?hp ?_; (case qm => (exact zMm)); (case qv => (exact zLe)); (case hp => exact rfl)) | (refine' x_val rfl rfl rfl (r_ldo rfl rfl ?qw (by simp) ?qv) ?hp ?_; (case qw => assumption); (case qv => (exact zLe)); (case hp => exact rfl)))
      | (refine x_k 1 rfl ?_; (refine x_val rfl rfl rfl (r_assign rfl rfl) ?hp ?_; (case hp => exact rfl)))
      | (refine x_k 13 rfl ?_; (refine x_val rfl rfl rfl (r_neq rfl rfl rfl) ?hp ?_; (case hp => exact rfl)))
      | (refine x_k 35 rfl ?_; (refine x_call Try.func114 (by kernel_rfl) rfl rfl rfl rfl rfl rfl (fun w hL => hoth w) ?hp ?_; (case hp => exact rfl)))
      | (refine x_k 4 rfl ?_; (refine x_boxA rfl rfl rfl rfl rfl ?hp (fun blk => ?_); (case hp => exact rfl)))
      | (refine x_k 27 rfl ?_; first | (refine x_val rfl rfl rfl (r_lkp (s := atP h) rfl rfl rfl uMapI zIntV hb (by simp) hm h1) ?hp ?_; (case hp => exact rfl)) | (refine x_val rfl rfl rfl (r_lkp (s := othP h) rfl rfl rfl uMapI zIntV hb (by simp) hm h2) ?hp ?_; (case hp => exact rfl)))
      | refine x_nil0 ?_
      | refine x_nil ?_)
    | (refine' c_drawX (id := 1) [(Sum.inl _ : Calm.Plan), (Sum.inl _ : Calm.Plan), (Sum.inl _ : Calm.Plan), (Sum.inl _ : Calm.Plan), (Sum.inl _ : Calm.Plan), (Sum.inl _ : Calm.Plan), (Sum.inl _ : Calm.Plan), (Sum.inl _ : Calm.Plan), (Sum.inl _ : Calm.Plan), (Sum.inl _ : Calm.Plan)] (by kernel_rfl) (by kernel_rfl) (by kernel_rfl) ?_)
    | (refine e_ret1 (by simp) rfl (re_tmp rfl) fun w hL => ⟨by simp [hpt], hL.toBelow⟩))
set_option maxRecDepth 100000 in
set_option maxHeartbeats 1600000 in
theorem idle_any (p : Nat → Int) (cs : Array Value) (w : World) (hp : Pv p cs) (hv : validP p = true) :
    Calls Try.prog 60 #[.agg cs] w (NewS 139 3 (flH (idL p)) w) := by
  have hsz := hp.size
  have hyd := fun w => yards_any p cs w hp hv
  have hhu := fun w => hurdles_any p cs w hp hv
  have hhl := hursL_len hv
  have hhr : ∀ h ∈ hursL p, inR ⟨h.x, h.y⟩ := fun h hm => isC_range (isH_cells (hursL_isH hm)).1
  unfold idL
  have hyl : (ydP p).length ≤ 100 := by
    obtain ⟨hW, hH, hW10, hH10⟩ := validP_dims hv
    exact Nat.le_trans (ydS_len p _ _) (Nat.mul_le_mul hH10 hW10)
  have hyl2 : ∀ l ∈ ydP p, l.length ≤ 100 := fun l hl => by
    obtain ⟨hW, hH, hW10, hH10⟩ := validP_dims hv
    obtain ⟨a, ha, rfl⟩ := ydS_of _ (fun k hk => cellN_cel (p := p) (k := k) hW hH hW10 hH10 hk) l hl
    exact yardL_len (by omega) (by omega) ha
  generalize ydP p = Y at *
  generalize hursL p = Hs at *
  refine enter1 Try.func60 rfl rfl rfl (Own.start w) ?_
  repeat' (first
    | (refine s_g ?_; first
      | (refine s_k 0 rfl ?_; refine s_val rfl rfl rfl (r_move rfl rfl) ?_)
      | (refine s_k 8 rfl ?_; first | (refine' s_val rfl rfl rfl (r_ldv rfl rfl ?qm ?qv) ?_; (case qm => (exact zMm)); (case qv => (exact zLe))) | (refine' s_val rfl rfl rfl (r_ldo rfl rfl ?qw (by simp) ?qv) ?_; (case qw => assumption); (case qv => (exact zLe))))
      | (refine s_k 1 rfl ?_; refine s_val rfl rfl rfl (r_assign rfl rfl) ?_)
      | (refine s_k 13 rfl ?_; first | refine s_val rfl rfl rfl (r_lss rfl rfl rfl) ?_ | refine s_val rfl rfl rfl (r_add rfl rfl rfl (wrap_in (by simp only [lo, hi]; omega))) ?_)
      | (refine s_k 35 rfl ?_; (refine s_callSS (S := Y) Try.func110 (by kernel_rfl) rfl rfl rfl rfl rfl rfl (fun w hL => hyd w) fun gs caps curs items hAs hIs => ?_; simp only [List.cons_append, List.nil_append]))
      | (refine s_k 25 rfl ?_; first | refine s_val rfl rfl rfl (r_ixN tb rfl rfl rfl rfl (by omega)) ?_ | refine s_val rfl rfl rfl (r_ixA tb rfl rfl rfl rfl (by omega) (by omega)) ?_ | refine s_val rfl rfl rfl (r_ixO tb rfl rfl rfl rfl (by omega)) ?_)
      | (refine s_k 4 rfl ?_; first | refine s_boxA rfl rfl rfl rfl rfl fun blk => ?_ | refine s_box1 rfl rfl rfl rfl rfl rfl fun blk => ?_)
      | (refine s_k 9 rfl ?_; (first | refine s_st1 tb rfl rfl rfl rfl rfl rfl rfl rfl ?_ | refine s_stA tb rfl rfl rfl rfl (by first | rfl | assumption | (apply Pv.size; assumption)) rfl rfl ?_); (first | refine' st0 ?qs ?_ | refine' st1 ?qs ?_ | refine' st2 ?qs ?_ | refine' st3 ?qs ?_ | refine' st4 ?qs ?_ | refine' st5 ?qs ?_ | refine' st6 ?qs ?_ | refine' st7 ?qs ?_ | refine' st8 ?qs ?_ | refine' st9 ?qs ?_ | refine' st10 ?qs ?_ | refine' st11 ?qs ?_); (case qs => (first | exact set_one (by decide) rfl | exact zSet)))
      | (refine s_k 3 rfl ?_; refine s_alloc1 (t := 159) rfl zMapI rfl rfl rfl rfl fun blk => ?_)
      | (refine s_k 36 rfl ?_; refine s_val rfl rfl rfl (r_len tb rfl rfl rfl) ?_)
      | (refine s_k 18 rfl ?_; refine s_val rfl rfl rfl (r_func rfl rfl rfl) ?_)
      | (refine s_k 19 rfl ?_; refine s_mkMap rfl rfl rfl rfl (fun b w1 hB1 hsz1 hlt1 hge1 hget1 => ?_) rfl)
      | refine s_nil ?_)
    | (refine c_g ?_; first | refine c_seq ?_ | refine c_region ?_ | (refine c_gc ?_; first | refine c_cond1 rfl zTr ?_ | refine c_cond0 rfl zTr ?_ | refine z_condd1 rfl ?_ | refine z_condd0 rfl ?_ | refine z_conddn1 rfl ?_ | refine z_conddn0 rfl ?_ | refine c_condd rfl (fun hc => ?_) (fun hc => ?_) | refine c_conddn rfl (fun hc => ?_) (fun hc => ?_) | refine c_condn rfl (fun hc => ?_) (fun hc => ?_) | refine c_cond rfl (fun hc => ?_) (fun hc => ?_)) | refine c_block ?_ | refine c_skip ?_ | refine c_exit ?_ | refine c_ret ?_)
    | (refine e_g ?_; first | refine e_then ?_ | refine e_blkn ?_ | refine e_thenx ?_ | refine e_thenr ?_ | refine e_blkr ?_ | refine e_blkx ?_ | refine e_blky rfl ?_))
  rename_i b1
  have hge : ∀ x ∈ List.map (·.1) [(b1, 36, cs)], w.heap.size ≤ x := fun k hk => by
    obtain ⟨x, hx, rfl⟩ := List.mem_map.1 hk
    exact (hge1 x hx).resolve_right (by simp)
  have hMB : MB w (List.map (·.1) [(b1, 36, cs)]) w1 b (.map #[] 0) := ⟨hB1, hge, hget1, fun hk => by have := hlt1 b hk; omega, by have := hlt1 b1 (by simp); have h3 := hge b1 (by simp); omega⟩
  refine c_loopX (fun i : YK => Y.length - i.k) (fun i => i.k ≤ Y.length ∧ MapIs i.ob (nmF Y i.k []) ∧ MB w (List.map (·.1) ((gs, 38, curs) :: (blk, 159, #[.map (some b)]) :: (b1, 36, cs) :: itR items)) i.w b i.ob) (fun i => i.w) (fun i => [(12, .int .i64 (i.k : Int)), (11, .int .i64 (Y.length : Int)), (10, .slice (some ⟨gs, 0, none⟩) Y.length caps), (3, .pointer (some ⟨blk, 0, none⟩)), (1, .pointer (some ⟨b1, 0, none⟩))]) (fun i => (gs, 38, curs) :: (blk, 159, #[.map (some b)]) :: (b1, 36, cs) :: itR items) (fun w2 hK => ⟨⟨0, w2, .map #[] 0⟩, [], ⟨by simp, MapIs.new.congr (fun u => by simp [nmF, nmK]), hMB.stepP (R := []) hK (List.Perm.refl _)⟩, rfl, ?hs, List.Perm.refl _⟩) ?_
  case hs => (repeat' (first | exact sub_nil | refine sub_cons rfl ?_))
  revert blk; intro b3
  rintro ⟨k, w1, ob⟩ ⟨hk, hM, hB⟩
  simp only [ofL] at hk hM hB ⊢
  by_cases hlt : k < Y.length
  · have hx : Y[k]? = some Y[k] := List.getElem?_eq_getElem hlt
    have hkI : k < items.length := by rw [hIs.len]; exact hlt
    have hxI : items[k]? = some items[k] := List.getElem?_eq_getElem hkI
    have hgd : Y.getD k [] = Y[k] := by simp [List.getD, hx]
    have hlen := hyl2 _ (List.getElem_mem hlt)
    have hAy := hIs.ap k _ _ hx hxI
    have hitm := itR_mem (List.getElem_mem hkI)
    have hv0 : (itV Y items)[k]? = some (Value.slice (some ⟨items[k].1, 0, none⟩) Y[k].length items[k].2.1) := by
      unfold itV; rw [List.getElem?_zipWith, hx, hxI]
    have hl2 := Ap1_get hAs hv0
    generalize Y[k] = yd at *
    generalize items[k] = it at *
    obtain ⟨gi, ci, cui⟩ := it
    simp only at hAy hitm hl2
    repeat' (first
      | (refine s_g ?_; first
      | (refine s_k 0 rfl ?_; refine s_val rfl rfl rfl (r_move rfl rfl) ?_)
      | (refine s_k 8 rfl ?_; first | refine s_val rfl rfl rfl (r_ld1 tb rfl rfl m0 rfl hl2) ?_ | (refine' s_val rfl rfl rfl (r_ldv rfl rfl ?qm ?qv) ?_; (case qm => (exact zMm)); (case qv => (exact zLe))) | (refine' s_val rfl rfl rfl (r_ldo rfl rfl ?qw (by simp) ?qv) ?_; (case qw => assumption); (case qv => (exact zLe))))
      | (refine s_k 1 rfl ?_; refine s_val rfl rfl rfl (r_assign rfl rfl) ?_)
      | (refine s_k 13 rfl ?_; first | refine s_val rfl rfl rfl (r_lss rfl rfl rfl) ?_ | refine s_val rfl rfl rfl (r_add rfl rfl rfl (wrap_in (by simp only [lo, hi]; omega))) ?_)
      | (refine s_k 25 rfl ?_; first | refine s_val rfl rfl rfl (r_ixO tb rfl rfl rfl rfl hlt) ?_ | refine s_val rfl rfl rfl (r_ixN tb rfl rfl rfl rfl (by omega)) ?_ | refine s_val rfl rfl rfl (r_ixA tb rfl rfl rfl rfl (by omega) (by omega)) ?_ | refine s_val rfl rfl rfl (r_ixO tb rfl rfl rfl rfl (by omega)) ?_)
      | (refine s_k 4 rfl ?_; first | refine s_boxA rfl rfl rfl rfl rfl fun blk => ?_ | refine s_box1 rfl rfl rfl rfl rfl rfl fun blk => ?_)
      | (refine s_k 9 rfl ?_; (first | refine s_st1 tb rfl rfl rfl rfl rfl rfl rfl rfl ?_ | refine s_stA tb rfl rfl rfl rfl (by first | rfl | assumption | (apply Pv.size; assumption)) rfl rfl ?_); (first | refine' st0 ?qs ?_ | refine' st1 ?qs ?_ | refine' st2 ?qs ?_ | refine' st3 ?qs ?_ | refine' st4 ?qs ?_ | refine' st5 ?qs ?_ | refine' st6 ?qs ?_ | refine' st7 ?qs ?_ | refine' st8 ?qs ?_ | refine' st9 ?qs ?_ | refine' st10 ?qs ?_ | refine' st11 ?qs ?_); (case qs => (first | exact zSet)))
      | (refine s_k 36 rfl ?_; refine s_val rfl rfl rfl (r_len tb rfl rfl rfl) ?_)
      | (refine s_k 18 rfl ?_; refine s_val rfl rfl rfl (r_func rfl rfl rfl) ?_)
      | refine s_nil ?_)
      | (refine c_g ?_; first | refine c_seq ?_ | refine c_region ?_ | (refine c_gc ?_; first | refine c_cond1 rfl zTr ?_ | refine c_cond0 rfl zTr ?_ | refine z_condd1 rfl ?_ | refine z_condd0 rfl ?_ | refine z_conddn1 rfl ?_ | refine z_conddn0 rfl ?_ | refine c_condd rfl (fun hc => ?_) (fun hc => ?_) | refine c_conddn rfl (fun hc => ?_) (fun hc => ?_) | refine c_condn rfl (fun hc => ?_) (fun hc => ?_) | refine c_cond rfl (fun hc => ?_) (fun hc => ?_)) | refine c_block ?_ | refine c_skip ?_ | refine c_exit ?_ | refine c_ret ?_)
      | (refine e_g ?_; first | refine e_then ?_ | refine e_blkn ?_ | refine e_thenx ?_ | refine e_thenr ?_ | refine e_blkr ?_ | refine e_blkx ?_ | refine e_blky rfl ?_))
    refine c_loopX (fun i : YJ => yd.length - i.j) (fun i => i.j ≤ yd.length ∧ MapIs i.ob (nmF Y k (yd.take i.j)) ∧ MB w (List.map (·.1) ((gs, 38, curs) :: (b3, 159, #[.map (some b)]) :: (b1, 36, cs) :: itR items)) i.w b i.ob) (fun i => i.w) (fun i => [(19, .int .i64 (i.j : Int)), (18, .int .i64 (yd.length : Int)), (17, .slice (some ⟨gi, 0, none⟩) yd.length ci), (4, .int .i64 (k : Int)), (12, .int .i64 (k : Int)), (11, .int .i64 (Y.length : Int)), (10, .slice (some ⟨gs, 0, none⟩) Y.length caps), (3, .pointer (some ⟨b3, 0, none⟩)), (1, .pointer (some ⟨b1, 0, none⟩))]) (fun i => (gs, 38, curs) :: (b3, 159, #[.map (some b)]) :: (b1, 36, cs) :: itR items) (fun w2 hK => ⟨⟨0, w2, ob⟩, [], ⟨by simp, by simpa using hM, hB.stepP (R := []) hK (List.Perm.refl _)⟩, rfl, ?hs, List.Perm.refl _⟩) ?_
    case hs => (repeat' (first | exact sub_nil | refine sub_cons rfl ?_))
    rintro ⟨j, w1, ob⟩ ⟨hj, hM, hB⟩
    simp only [ofL] at hj hM hB ⊢
    by_cases hlt2 : j < yd.length
    · have hx2 : yd[j]? = some yd[j] := List.getElem?_eq_getElem hlt2
      have hsp2 := hAy.spot hx2
      have htk : yd.take (j + 1) = yd.take j ++ [yd[j]] := by rw [List.take_add_one, hx2]; rfl
      generalize yd[j] = e at *
      repeat' (first
        | (refine s_g ?_; first
      | (refine s_k 0 rfl ?_; refine s_val rfl rfl rfl (r_move rfl rfl) ?_)
      | (refine s_k 8 rfl ?_; first | refine s_val rfl rfl rfl (r_ldN tb rfl rfl (List.mem_cons_of_mem _ (List.mem_cons_of_mem _ (List.mem_cons_of_mem _ hitm))) rfl hsp2.1 hsp2.2) ?_ | (refine' s_val rfl rfl rfl (r_ldv rfl rfl ?qm ?qv) ?_; (case qm => (exact zMm)); (case qv => (exact zLe))) | (refine' s_val rfl rfl rfl (r_ldo rfl rfl ?qw (by simp) ?qv) ?_; (case qw => assumption); (case qv => (exact zLe))))
      | (refine s_k 1 rfl ?_; refine s_val rfl rfl rfl (r_assign rfl rfl) ?_)
      | (refine s_k 13 rfl ?_; first | refine s_val rfl rfl rfl (r_lss rfl rfl rfl) ?_ | refine s_val rfl rfl rfl (r_add rfl rfl rfl (wrap_in (by simp only [lo, hi]; omega))) ?_)
      | (refine s_k 25 rfl ?_; first | refine s_val rfl rfl rfl (r_ixO tb rfl rfl rfl rfl hlt2) ?_ | refine s_val rfl rfl rfl (r_ixN tb rfl rfl rfl rfl (by omega)) ?_ | refine s_val rfl rfl rfl (r_ixA tb rfl rfl rfl rfl (by omega) (by omega)) ?_ | refine s_val rfl rfl rfl (r_ixO tb rfl rfl rfl rfl (by omega)) ?_)
      | (refine s_k 4 rfl ?_; first | refine s_boxA rfl rfl rfl rfl rfl fun blk => ?_ | refine s_box1 rfl rfl rfl rfl rfl rfl fun blk => ?_)
      | (refine s_k 9 rfl ?_; (first | refine s_st1 tb rfl rfl rfl rfl rfl rfl rfl rfl ?_ | refine s_stA tb rfl rfl rfl rfl (by first | rfl | assumption | (apply Pv.size; assumption)) rfl rfl ?_); (first | refine' st0 ?qs ?_ | refine' st1 ?qs ?_ | refine' st2 ?qs ?_ | refine' st3 ?qs ?_ | refine' st4 ?qs ?_ | refine' st5 ?qs ?_ | refine' st6 ?qs ?_ | refine' st7 ?qs ?_ | refine' st8 ?qs ?_ | refine' st9 ?qs ?_ | refine' st10 ?qs ?_ | refine' st11 ?qs ?_); (case qs => (first | exact set_whole (vs := e.cells.toArray) rfl (by simp [Sp.cells, Value.oneCell']) | exact zSet)))
      | (refine s_k 3 rfl ?_; refine s_allocA (t := 66) rfl zImplSpot rfl rfl rfl fun blk => ?_)
      | (refine s_k 36 rfl ?_; refine s_val rfl rfl rfl (r_len tb rfl rfl rfl) ?_)
      | (refine s_k 18 rfl ?_; refine s_val rfl rfl rfl (r_func rfl rfl rfl) ?_)
      | (refine s_k 28 rfl ?_; refine s_mapU (s := e) rfl rfl rfl rfl uMapI hB.get hB.notin hM rfl rfl fun ob' hM' => ?_)
      | refine s_nil ?_)
        | (refine c_g ?_; first | refine c_seq ?_ | refine c_region ?_ | (refine c_gc ?_; first | refine c_cond1 rfl zTr ?_ | refine c_cond0 rfl zTr ?_ | refine z_condd1 rfl ?_ | refine z_condd0 rfl ?_ | refine z_conddn1 rfl ?_ | refine z_conddn0 rfl ?_ | refine c_condd rfl (fun hc => ?_) (fun hc => ?_) | refine c_conddn rfl (fun hc => ?_) (fun hc => ?_) | refine c_condn rfl (fun hc => ?_) (fun hc => ?_) | refine c_cond rfl (fun hc => ?_) (fun hc => ?_)) | refine c_block ?_ | refine c_skip ?_ | refine c_exit ?_ | refine c_ret ?_)
        | (refine e_g ?_; first | refine e_then ?_ | refine e_blkn ?_ | refine e_thenx ?_ | refine e_thenr ?_ | refine e_blkr ?_ | refine e_blkx ?_ | refine e_blky rfl ?_)
        | (refine e_roundX fun w2 hK => ⟨⟨j + 1, w2, ob'⟩, [(_, _, _)], by simp; omega, ⟨by simp; omega, hM'.congr (fun u => by simp only [htk]; exact nmF_snoc _ _ _ _ _), hB.set.stepP (R := [(_, _, _)]) hK (List.Perm.refl _)⟩, rfl, ?_, List.Perm.refl _⟩))
      all_goals (repeat' (first | exact sub_nil | refine sub_cons rfl ?_))
    · have hjl : j = yd.length := by omega
      subst hjl
      rw [List.take_length] at hM
      repeat' (first
        | (refine s_g ?_; first
      | (refine s_k 0 rfl ?_; refine s_val rfl rfl rfl (r_move rfl rfl) ?_)
      | (refine s_k 8 rfl ?_; first | (refine' s_val rfl rfl rfl (r_ldv rfl rfl ?qm ?qv) ?_; (case qm => (exact zMm)); (case qv => (exact zLe))) | (refine' s_val rfl rfl rfl (r_ldo rfl rfl ?qw (by simp) ?qv) ?_; (case qw => assumption); (case qv => (exact zLe))))
      | (refine s_k 1 rfl ?_; refine s_val rfl rfl rfl (r_assign rfl rfl) ?_)
      | (refine s_k 13 rfl ?_; first | refine s_val rfl rfl rfl (r_lss rfl rfl rfl) ?_ | refine s_val rfl rfl rfl (r_add rfl rfl rfl (wrap_in (by simp only [lo, hi]; omega))) ?_)
      | (refine s_k 25 rfl ?_; first | refine s_val rfl rfl rfl (r_ixN tb rfl rfl rfl rfl (by omega)) ?_ | refine s_val rfl rfl rfl (r_ixA tb rfl rfl rfl rfl (by omega) (by omega)) ?_ | refine s_val rfl rfl rfl (r_ixO tb rfl rfl rfl rfl (by omega)) ?_)
      | (refine s_k 4 rfl ?_; first | refine s_boxA rfl rfl rfl rfl rfl fun blk => ?_ | refine s_box1 rfl rfl rfl rfl rfl rfl fun blk => ?_)
      | (refine s_k 9 rfl ?_; (first | refine s_st1 tb rfl rfl rfl rfl rfl rfl rfl rfl ?_ | refine s_stA tb rfl rfl rfl rfl (by first | rfl | assumption | (apply Pv.size; assumption)) rfl rfl ?_); (first | refine' st0 ?qs ?_ | refine' st1 ?qs ?_ | refine' st2 ?qs ?_ | refine' st3 ?qs ?_ | refine' st4 ?qs ?_ | refine' st5 ?qs ?_ | refine' st6 ?qs ?_ | refine' st7 ?qs ?_ | refine' st8 ?qs ?_ | refine' st9 ?qs ?_ | refine' st10 ?qs ?_ | refine' st11 ?qs ?_); (case qs => (first | exact zSet)))
      | (refine s_k 36 rfl ?_; refine s_val rfl rfl rfl (r_len tb rfl rfl rfl) ?_)
      | (refine s_k 18 rfl ?_; refine s_val rfl rfl rfl (r_func rfl rfl rfl) ?_)
      | refine s_nil ?_)
        | (refine c_g ?_; first | refine c_seq ?_ | refine c_region ?_ | (refine c_gc ?_; first | refine c_cond1 rfl zTr ?_ | refine c_cond0 rfl zTr ?_ | refine z_condd1 rfl ?_ | refine z_condd0 rfl ?_ | refine z_conddn1 rfl ?_ | refine z_conddn0 rfl ?_ | refine c_condd rfl (fun hc => ?_) (fun hc => ?_) | refine c_conddn rfl (fun hc => ?_) (fun hc => ?_) | refine c_condn rfl (fun hc => ?_) (fun hc => ?_) | refine c_cond rfl (fun hc => ?_) (fun hc => ?_)) | refine c_block ?_ | refine c_skip ?_ | refine c_exit ?_ | refine c_ret ?_)
        | (refine e_g ?_; first | refine e_then ?_ | refine e_blkn ?_ | refine e_thenx ?_ | refine e_thenr ?_ | refine e_blkr ?_ | refine e_blkx ?_ | refine e_blky rfl ?_)
        | (refine e_roundX fun w2 hK => ⟨⟨k + 1, w2, ob⟩, [], by simp; omega, ⟨by simp; omega, hM.congr (fun u => nmF_next _ _ _ _ hgd), hB.stepP (R := []) hK (List.Perm.refl _)⟩, rfl, ?_, List.Perm.refl _⟩))
      all_goals (repeat' (first | exact sub_nil | refine sub_cons rfl ?_))
  · have hkl : k = Y.length := by omega
    subst hkl
    repeat' (first
      | (refine s_g ?_; first
      | (refine s_k 0 rfl ?_; refine s_val rfl rfl rfl (r_move rfl rfl) ?_)
      | (refine s_k 8 rfl ?_; first | (refine' s_val rfl rfl rfl (r_ldv rfl rfl ?qm ?qv) ?_; (case qm => (exact zMm)); (case qv => (exact zLe))) | (refine' s_val rfl rfl rfl (r_ldo rfl rfl ?qw (by simp) ?qv) ?_; (case qw => assumption); (case qv => (exact zLe))))
      | (refine s_k 1 rfl ?_; refine s_val rfl rfl rfl (r_assign rfl rfl) ?_)
      | (refine s_k 13 rfl ?_; first | refine s_val rfl rfl rfl (r_lss rfl rfl rfl) ?_ | refine s_val rfl rfl rfl (r_add rfl rfl rfl (wrap_in (by simp only [lo, hi]; omega))) ?_)
      | (refine s_k 35 rfl ?_; first | (refine s_callN Try.func112 (by kernel_rfl) rfl rfl rfl rfl rfl rfl (fun w hL => hhu w) fun gh kh caph curh hAh => ?_) | (refine s_callM0 Try.func111 (by kernel_rfl) rfl rfl rfl rfl rfl rfl (fun w hL hg => delH_any Hs 113 _ [_] (parts Y) _ _ _ _ w hAh hg (by omega) Try.func113 (by kernel_rfl) rfl (fun h hhm w' hb' => idClo_any h Y _ _ b ob w' (hhr h hhm) (hb'.blk (hL.at_ m2) (Kn.ne0 hL m1)) (hb'.blk (hB.blk hL) (fun e => hB.nl hL _ m0 e.symm)) hM)) fun cs hp => ?_))
      | (refine s_k 25 rfl ?_; first | refine s_val rfl rfl rfl (r_ixN tb rfl rfl rfl rfl (by omega)) ?_ | refine s_val rfl rfl rfl (r_ixA tb rfl rfl rfl rfl (by omega) (by omega)) ?_ | refine s_val rfl rfl rfl (r_ixO tb rfl rfl rfl rfl (by omega)) ?_)
      | (refine s_k 4 rfl ?_; first | refine s_boxA rfl rfl rfl rfl rfl fun blk => ?_ | refine s_box1 rfl rfl rfl rfl rfl rfl fun blk => ?_)
      | (refine s_k 9 rfl ?_; (first | refine s_st1 tb rfl rfl rfl rfl rfl rfl rfl rfl ?_ | refine s_stA tb rfl rfl rfl rfl (by first | rfl | assumption | (apply Pv.size; assumption)) rfl rfl ?_); (first | refine' st0 ?qs ?_ | refine' st1 ?qs ?_ | refine' st2 ?qs ?_ | refine' st3 ?qs ?_ | refine' st4 ?qs ?_ | refine' st5 ?qs ?_ | refine' st6 ?qs ?_ | refine' st7 ?qs ?_ | refine' st8 ?qs ?_ | refine' st9 ?qs ?_ | refine' st10 ?qs ?_ | refine' st11 ?qs ?_); (case qs => (first | exact zSet)))
      | (refine s_k 36 rfl ?_; refine s_val rfl rfl rfl (r_len tb rfl rfl rfl) ?_)
      | (refine s_k 18 rfl ?_; refine s_val rfl rfl rfl (r_func rfl rfl rfl) ?_)
      | refine s_nil ?_)
      | (refine c_g ?_; first | refine c_seq ?_ | refine c_region ?_ | (refine c_gc ?_; first | refine c_cond1 rfl zTr ?_ | refine c_cond0 rfl zTr ?_ | refine z_condd1 rfl ?_ | refine z_condd0 rfl ?_ | refine z_conddn1 rfl ?_ | refine z_conddn0 rfl ?_ | refine c_condd rfl (fun hc => ?_) (fun hc => ?_) | refine c_conddn rfl (fun hc => ?_) (fun hc => ?_) | refine c_condn rfl (fun hc => ?_) (fun hc => ?_) | refine c_cond rfl (fun hc => ?_) (fun hc => ?_)) | refine c_block ?_ | refine c_skip ?_ | refine c_exit ?_ | refine c_ret ?_)
      | (refine e_g ?_; first | refine e_then ?_ | refine e_blkn ?_ | refine e_thenx ?_ | refine e_thenr ?_ | refine e_blkr ?_ | refine e_blkx ?_ | refine e_blky rfl ?_)
      | (refine e_ret1 (by simp) rfl (re_tmp rfl) fun w hL => NewS.of hp (hB.kn hL) m0))
end Go.Proofs.Ytnfdefeafhepkaa
