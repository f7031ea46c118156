import Derived.Test.YtnafnhpajkhgkaaQY10
import Derived.Test.YtnafnhpajkhgkaaQY12
import Derived.Test.YtnafnhpajkhgkaaQY14
import Derived.Test.YtnafnhpajkhgkaaQY19
/- All sides and the hurdles that stand: the specification's lists and the program's are the same. No condition. -/
namespace Go.Proofs.Ytnafnhpajkhgkaa
set_option linter.unusedVariables false
set_option linter.unusedSimpArgs false
open Go.RowKit Mem Wk
attribute [local irreducible] Calls Wk.S Wk.C Wk.E Wk.X Wk.T Wk.andV Wk.shrV Calm.wpLex
def stP (p : Nat → Int) (h : Hd) : Bool := standB p h.x h.y h.s
def allSd (p : Nat → Int) : List Hd := sdL (isH p) (p 0).toNat ((p 1).toNat * (p 0).toNat)
theorem validP_dims {p : Nat → Int} (h : validP p = true) : p 0 = ((p 0).toNat : Int) ∧ p 1 = ((p 1).toNat : Int) ∧ (p 0).toNat ≤ 10 ∧ (p 1).toNat ≤ 10 := by
  unfold validP at h
  simp only [Bool.and_eq_true] at h
  obtain ⟨h0, h1, _⟩ := h
  unfold inB at h0 h1
  simp at h0 h1
  omega
theorem allSd_len {p : Nat → Int} (h : validP p = true) : (allSd p).length ≤ 200 := by
  obtain ⟨_, _, h1, h2⟩ := validP_dims h
  have := sdL_len (isH p) (p 0).toNat ((p 1).toNat * (p 0).toNat)
  have : (p 1).toNat * (p 0).toNat ≤ 10 * 10 := Nat.mul_le_mul h2 h1
  unfold allSd; omega
theorem allSd_isH {p : Nat → Int} {h : Hd} (hm : h ∈ allSd p) : isH p h = true := sdL_mem hm
theorem isH_cells {p : Nat → Int} {h : Hd} (hh : isH p h = true) : isC (p 0) (p 1) h.x h.y = true ∧ isC (p 0) (p 1) (nextX h.x (sdOf h.s)) (nextY h.y (sdOf h.s)) = true := by
  unfold isH at hh; simpa using hh
theorem canB_stP {p : Nat → Int} {h : Hd} (hh : isH p h = true) : (!canB p h.x h.y (sdOf h.s)) = stP p h := by
  obtain ⟨s1, s2, s3⟩ := hd_self h.x h.y h.s
  unfold canB stP
  rw [(isH_cells hh).2, s1, s2, s3]
  simp
set_option maxRecDepth 100000 in
theorem l03Stands_any (p : Nat → Int) (cs : Array Value) (T : TypeId) (g : Nat) (h : Hd) (w : World) (hp : Pv p cs) (hg : w.heap[g]? = some (.cells cs T (0, 0))) (ha : p 0 ≤ 10) (hb : p 1 ≤ 10) (hh : isH p h = true) :
    Calls Try.prog 93 #[.pointer (some ⟨g, 0, none⟩), .agg #[.int .i8 h.x, .int .i8 h.y, .bool h.s]] w fun e w' => e = .returned (.bool (stP p h)) ∧ Below w.heap.size w w' := by
  have hr := isC_range (isH_cells hh).1
  have hsd : 0 ≤ sdOf h.s ∧ sdOf h.s ≤ 3 := by unfold sdOf; split <;> omega
  have hcl := fun w hg => l01Closed_any p cs T g h.x h.y (sdOf h.s) w hp hg ha hb ⟨hr.1, hr.2.1⟩ hr.2.2 hsd
  rw [canB_stP hh] at hcl
  refine enter2 Try.func93 rfl rfl rfl (Own.start w) ?_
  repeat' (first
    | (refine s_g ?_; first
      | (refine s_k 0 rfl ?_; refine s_val rfl rfl rfl (r_move rfl rfl) ?_)
      | (refine s_k 23 rfl ?_; first | refine s_val rfl rfl rfl (r_field tb rfl rfl rfl) ?_ | refine s_val rfl rfl rfl (r_fieldS tb rfl rfl rfl) ?_)
      | (refine s_k 8 rfl ?_; first | (refine' s_val rfl rfl rfl (r_ldv rfl rfl ?qm ?qv) ?_; (case qm => (exact zMm)); (case qv => (exact zLe))) | (refine' s_val rfl rfl rfl (r_ldo rfl rfl ?qw (by simp) ?qv) ?_; (case qw => assumption); (case qv => (exact zLe))))
      | (refine s_k 1 rfl ?_; refine s_val rfl rfl rfl (r_assign rfl rfl) ?_)
      | (refine s_k 35 rfl ?_; first | (refine s_call Try.func38 (by kernel_rfl) rfl rfl rfl rfl rfl rfl (fun w hL => l03Side_any _ _ _ _) ?_) | (refine s_call Try.func106 (by kernel_rfl) rfl rfl rfl rfl rfl rfl (fun w hL => hcl w (Kn.old hL hg (by simp))) ?_))
      | (refine s_k 4 rfl ?_; first | refine s_boxA rfl rfl rfl rfl rfl fun blk => ?_ | refine s_box1 rfl rfl rfl rfl rfl rfl fun blk => ?_)
      | refine s_nil ?_)
    | (refine c_g ?_; first | refine c_seq ?_ | refine c_region ?_ | (refine c_gc ?_; first | refine c_cond1 rfl zTr ?_ | refine c_cond0 rfl zTr ?_ | refine z_condd1 rfl ?_ | refine z_condd0 rfl ?_ | refine z_conddn1 rfl ?_ | refine z_conddn0 rfl ?_ | refine c_condd rfl (fun hc => ?_) (fun hc => ?_) | refine c_conddn rfl (fun hc => ?_) (fun hc => ?_) | refine c_condn rfl (fun hc => ?_) (fun hc => ?_) | refine c_cond rfl (fun hc => ?_) (fun hc => ?_)) | refine c_block ?_ | refine c_skip ?_ | refine c_exit ?_ | refine c_ret ?_)
    | (refine e_g ?_; first | refine e_then ?_ | refine e_blkn ?_ | refine e_thenx ?_ | refine e_thenr ?_ | refine e_blkr ?_ | refine e_blkx ?_ | refine e_blky rfl ?_)
    | (refine x_g ?_; first
      | (refine x_k 0 rfl ?_; (refine x_val rfl rfl rfl (r_move rfl rfl) ?hp ?_; (case hp => exact rfl)))
      | (refine x_k 23 rfl ?_; first | (refine x_val rfl rfl rfl (r_field tb rfl rfl rfl) ?hp ?_; (case hp => exact rfl)) | (refine x_val rfl rfl rfl (r_fieldS tb rfl rfl rfl) ?hp ?_; (case hp => exact rfl)))
      | (refine x_k 8 rfl ?_; first | (refine' x_val rfl rfl rfl (r_ldv rfl rfl ?qm ?qv) ?hp ?_; (case qm => (exact zMm)); (case qv => (exact zLe)); (case hp => exact rfl)) | (refine' x_val rfl rfl rfl (r_ldo rfl rfl ?qw (by simp) ?qv) ?hp ?_; (case qw => assumption); (case qv => (exact zLe)); (case hp => exact rfl)))
      | (refine x_k 1 rfl ?_; (refine x_val rfl rfl rfl (r_assign rfl rfl) ?hp ?_; (case hp => exact rfl)))
      | (refine x_k 35 rfl ?_; first | (refine x_call Try.func38 (by kernel_rfl) rfl rfl rfl rfl rfl rfl (fun w hL => l03Side_any _ _ _ _) ?hp ?_; (case hp => exact rfl)) | (refine x_call Try.func106 (by kernel_rfl) rfl rfl rfl rfl rfl rfl (fun w hL => hcl w (Kn.old hL hg (by simp))) ?hp ?_; (case hp => exact rfl)))
      | (refine x_k 4 rfl ?_; (refine x_boxA rfl rfl rfl rfl rfl ?hp (fun blk => ?_); (case hp => exact rfl)))
      | refine x_nil0 ?_
      | refine x_nil ?_)
    | (refine' c_drawX (id := 1) [(Sum.inl _ : Calm.Plan), (Sum.inl _ : Calm.Plan), (Sum.inl _ : Calm.Plan), (Sum.inl _ : Calm.Plan), (Sum.inl _ : Calm.Plan), (Sum.inl _ : Calm.Plan), (Sum.inl _ : Calm.Plan)] (by kernel_rfl) (by kernel_rfl) (by kernel_rfl) ?_)
    | (refine e_ret1 (by simp) rfl (re_tmp rfl) fun w hL => ⟨rfl, hL.toBelow⟩))
theorem sdL_at {f : Hd → Bool} {W x y : Nat} (hx : x < W) : sdL f W (y * W + (x + 1)) = sdL f W (y * W + x) ++ sdB f ⟨(x : Int), (y : Int)⟩ 2 := by
  rw [← Nat.add_assoc, sdL_snoc, cellN_at y hx]
set_option maxRecDepth 100000 in
set_option maxHeartbeats 1600000 in
theorem l03All_any (p : Nat → Int) (cs : Array Value) (T : TypeId) (gp : Nat) (w : World) (hp : Pv p cs) (hg : w.heap[gp]? = some (.cells cs T (0, 0))) (hv : validP p = true) :
    Calls Try.prog 92 #[.pointer (some ⟨gp, 0, none⟩)] w (NewS 66 3 (flH (allSd p)) w) := by
  obtain ⟨hW, hH, hW10, hH10⟩ := validP_dims hv
  have h0 := hp.g0
  have h1 := hp.g1
  have ha : p 0 ≤ 10 := by omega
  have hb : p 1 ≤ 10 := by omega
  rw [hW] at h0; rw [hH] at h1
  unfold allSd
  generalize hF : isH p = F at *
  generalize (p 0).toNat = W at *
  generalize (p 1).toNat = H at *
  refine enter1 Try.func92 rfl rfl rfl (Own.start w) ?_
  repeat' (first
    | (refine s_g ?_; first
      | (refine s_k 0 rfl ?_; refine s_val rfl rfl rfl (r_move rfl rfl) ?_)
      | (refine s_k 23 rfl ?_; first | refine s_val rfl rfl rfl (r_field tb rfl rfl rfl) ?_ | refine s_val rfl rfl rfl (r_fieldS tb rfl rfl rfl) ?_)
      | (refine s_k 8 rfl ?_; first | (refine' s_val rfl rfl rfl (r_ldv rfl rfl ?qm ?qv) ?_; (case qm => (exact zMm)); (case qv => (exact zLe))) | (refine' s_val rfl rfl rfl (r_ldo rfl rfl ?qw (by simp) ?qv) ?_; (case qw => assumption); (case qv => (exact zLe))))
      | (refine s_k 1 rfl ?_; refine s_val rfl rfl rfl (r_assign rfl rfl) ?_)
      | (refine s_k 13 rfl ?_; first | refine s_val rfl rfl rfl (r_lss rfl rfl rfl) ?_ | refine s_val rfl rfl rfl (r_add rfl rfl rfl (wrap_in (by simp only [lo, hi]; omega))) ?_)
      | (refine s_k 9 rfl ?_; (first | refine s_st1 tb rfl rfl rfl rfl rfl rfl rfl rfl ?_ | refine s_stA tb rfl rfl rfl rfl (by first | rfl | assumption | (apply Pv.size; assumption)) rfl rfl ?_); (first | refine' st0 ?qs ?_ | refine' st1 ?qs ?_ | refine' st2 ?qs ?_ | refine' st3 ?qs ?_ | refine' st4 ?qs ?_ | refine' st5 ?qs ?_ | refine' st6 ?qs ?_ | refine' st7 ?qs ?_ | refine' st8 ?qs ?_ | refine' st9 ?qs ?_ | refine' st10 ?qs ?_ | refine' st11 ?qs ?_); (case qs => (first | exact zSet)))
      | (refine s_k 12 rfl ?_; refine s_val rfl rfl rfl (r_nil rfl rfl) ?_)
      | (refine s_k 6 rfl ?_; refine s_bsl rfl rfl (fun w => slHurdle0 w) rfl rfl rfl fun blk => ?_)
      | refine s_nil ?_)
    | (refine c_g ?_; first | refine c_seq ?_ | refine c_region ?_ | (refine c_gc ?_; first | refine c_cond1 rfl zTr ?_ | refine c_cond0 rfl zTr ?_ | refine z_condd1 rfl ?_ | refine z_condd0 rfl ?_ | refine z_conddn1 rfl ?_ | refine z_conddn0 rfl ?_ | refine c_condd rfl (fun hc => ?_) (fun hc => ?_) | refine c_conddn rfl (fun hc => ?_) (fun hc => ?_) | refine c_condn rfl (fun hc => ?_) (fun hc => ?_) | refine c_cond rfl (fun hc => ?_) (fun hc => ?_)) | refine c_block ?_ | refine c_skip ?_ | refine c_exit ?_ | refine c_ret ?_)
    | (refine e_g ?_; first | refine e_then ?_ | refine e_blkn ?_ | refine e_thenx ?_ | refine e_thenr ?_ | refine e_blkr ?_ | refine e_blkx ?_ | refine e_blky rfl ?_))
  refine c_loop (ι := Nat × Nat × Nat × Array Value) (fun i => H - i.1) (fun i => i.1 ≤ H ∧ Ap 3 (sdL F W (i.1 * W)).length i.2.2.1 i.2.2.2 (flH (sdL F W (i.1 * W)))) (fun i => [(4, .int .i8 (i.1 : Int)), (3, .slice (some ⟨i.2.1, 0, none⟩) (sdL F W (i.1 * W)).length i.2.2.1), (0, .pointer (some ⟨gp, 0, none⟩))]) (fun i => [(i.2.1, 66, i.2.2.2)]) (0, blk, 0, #[]) ⟨by simp, by simpa [sdL, flH] using Ap.nil 3⟩ ?hs rfl ?_
  case hs => exact sub_cons rfl (sub_cons' rfl (by simp [sdL]) (by repeat' (first | exact sub_nil | refine sub_cons rfl ?_)))
  rintro ⟨y, g, cap, cur⟩ ⟨hk, hA⟩
  simp only at hk hA ⊢
  have hyW : y * W ≤ 10 * 10 := Nat.mul_le_mul (by omega) hW10
  by_cases hlt : y < H
  · repeat' (first
      | (refine s_g ?_; first
      | (refine s_k 0 rfl ?_; refine s_val rfl rfl rfl (r_move rfl rfl) ?_)
      | (refine s_k 23 rfl ?_; first | refine s_val rfl rfl rfl (r_field tb rfl rfl rfl) ?_ | refine s_val rfl rfl rfl (r_fieldS tb rfl rfl rfl) ?_)
      | (refine s_k 8 rfl ?_; first | (refine' s_val rfl rfl rfl (r_ldv rfl rfl ?qm ?qv) ?_; (case qm => (exact zMm)); (case qv => (first | exact ldvL tb rfl rfl | exact ldv1 tb rfl (by assumption) | exact ldv1 tb rfl (h0) | exact ldv1 tb rfl (h1) | exact zLd))) | (refine' s_val rfl rfl rfl (r_ldo rfl rfl ?qw (by simp) ?qv) ?_; (case qw => assumption); (case qv => (first | exact ldvL tb rfl rfl | exact ldv1 tb rfl (by assumption) | exact ldv1 tb rfl (h0) | exact ldv1 tb rfl (h1) | exact zLd))))
      | (refine s_k 1 rfl ?_; refine s_val rfl rfl rfl (r_assign rfl rfl) ?_)
      | (refine s_k 13 rfl ?_; first | refine s_val rfl rfl rfl (r_lss rfl rfl rfl) ?_ | refine s_val rfl rfl rfl (r_add rfl rfl rfl (wrap_in (by simp only [lo, hi]; omega))) ?_)
      | (refine s_k 9 rfl ?_; (first | refine s_st1 tb rfl rfl rfl rfl rfl rfl rfl rfl ?_ | refine s_stA tb rfl rfl rfl rfl (by first | rfl | assumption | (apply Pv.size; assumption)) rfl rfl ?_); (first | refine' st0 ?qs ?_ | refine' st1 ?qs ?_ | refine' st2 ?qs ?_ | refine' st3 ?qs ?_ | refine' st4 ?qs ?_ | refine' st5 ?qs ?_ | refine' st6 ?qs ?_ | refine' st7 ?qs ?_ | refine' st8 ?qs ?_ | refine' st9 ?qs ?_ | refine' st10 ?qs ?_ | refine' st11 ?qs ?_); (case qs => (first | exact zSet)))
      | (refine s_k 12 rfl ?_; refine s_val rfl rfl rfl (r_nil rfl rfl) ?_)
      | refine s_nil ?_)
      | (refine c_g ?_; first | refine c_seq ?_ | refine c_region ?_ | (refine c_gc ?_; first | refine c_cond1 rfl zTr ?_ | refine c_cond0 rfl zTr ?_ | refine z_condd1 rfl ?_ | refine z_condd0 rfl ?_ | refine z_conddn1 rfl ?_ | refine z_conddn0 rfl ?_ | refine c_condd rfl (fun hc => ?_) (fun hc => ?_) | refine c_conddn rfl (fun hc => ?_) (fun hc => ?_) | refine c_condn rfl (fun hc => ?_) (fun hc => ?_) | refine c_cond rfl (fun hc => ?_) (fun hc => ?_)) | refine c_block ?_ | refine c_skip ?_ | refine c_exit ?_ | refine c_ret ?_)
      | (refine e_g ?_; first | refine e_then ?_ | refine e_blkn ?_ | refine e_thenx ?_ | refine e_thenr ?_ | refine e_blkr ?_ | refine e_blkx ?_ | refine e_blky rfl ?_))
    refine c_loop (ι := Nat × Nat × Nat × Array Value) (fun i => W - i.1) (fun i => i.1 ≤ W ∧ Ap 3 (sdL F W (y * W + i.1)).length i.2.2.1 i.2.2.2 (flH (sdL F W (y * W + i.1)))) (fun i => [(5, .int .i8 (i.1 : Int)), (4, .int .i8 (y : Int)), (3, .slice (some ⟨i.2.1, 0, none⟩) (sdL F W (y * W + i.1)).length i.2.2.1), (0, .pointer (some ⟨gp, 0, none⟩))]) (fun i => [(i.2.1, 66, i.2.2.2)]) (0, g, cap, cur) ⟨by simp, hA⟩ ?hs rfl ?_
    case hs => (repeat' (first | exact sub_nil | refine sub_cons rfl ?_))
    rintro ⟨x, g, cap, cur⟩ ⟨hk2, hA⟩
    simp only at hk2 hA ⊢
    have hbx := sdL_len F W (y * W + x)
    by_cases hltx : x < W
    · have hsn := sdL_at (f := F) (y := y) hltx
      have hokE : (Hd.mk (x : Int) (y : Int) false).ok := by unfold Hd.ok; simp only; omega
      have hokS : (Hd.mk (x : Int) (y : Int) true).ok := by unfold Hd.ok; simp only; omega
      have hcE := fun w hg => l03Is_any p cs T gp (x : Int) (y : Int) false w hp hg ha hb hokE
      have hcS := fun w hg => l03Is_any p cs T gp (x : Int) (y : Int) true w hp hg ha hb hokS
      rw [hF] at hcE hcS
      have hB0 := sdB_0 F ⟨(x : Int), (y : Int)⟩
      cases hE : F ⟨(x : Int), (y : Int), false⟩
      case' true => have hB1 := sdB_1y (c := ⟨(x : Int), (y : Int)⟩) hE
      case' false => have hB1 := sdB_1n (c := ⟨(x : Int), (y : Int)⟩) hE
      all_goals cases hS : F ⟨(x : Int), (y : Int), true⟩
      all_goals
        first
          | have hB2 := sdB_2y (c := ⟨(x : Int), (y : Int)⟩) hS
          | have hB2 := sdB_2n (c := ⟨(x : Int), (y : Int)⟩) hS
        rw [hE] at hcE; rw [hS] at hcS
        rw [hB2, hB1, hB0] at hsn
        repeat' (first
          | (refine s_g ?_; first
      | (refine s_k 0 rfl ?_; refine s_val rfl rfl rfl (r_move rfl rfl) ?_)
      | (refine s_k 23 rfl ?_; first | refine s_val rfl rfl rfl (r_field tb rfl rfl rfl) ?_ | refine s_val rfl rfl rfl (r_fieldS tb rfl rfl rfl) ?_)
      | (refine s_k 8 rfl ?_; first | (refine' s_val rfl rfl rfl (r_ldv rfl rfl ?qm ?qv) ?_; (case qm => (exact zMm)); (case qv => (first | exact ldvL tb rfl rfl | exact ldv1 tb rfl (by assumption) | exact ldv1 tb rfl (h0) | exact zLd))) | (refine' s_val rfl rfl rfl (r_ldo rfl rfl ?qw (by simp) ?qv) ?_; (case qw => assumption); (case qv => (first | exact ldvL tb rfl rfl | exact ldv1 tb rfl (by assumption) | exact ldv1 tb rfl (h0) | exact zLd))))
      | (refine s_k 1 rfl ?_; refine s_val rfl rfl rfl (r_assign rfl rfl) ?_)
      | (refine s_k 13 rfl ?_; first | refine s_val rfl rfl rfl (r_lss rfl rfl rfl) ?_ | refine s_val rfl rfl rfl (r_add rfl rfl rfl (wrap_in (by simp only [lo, hi]; omega))) ?_)
      | (refine s_k 35 rfl ?_; first | (refine s_call Try.func107 (by kernel_rfl) rfl rfl rfl rfl rfl rfl (fun w hL => hcE w (Kn.old hL hg (by simp))) ?_) | (refine s_call Try.func107 (by kernel_rfl) rfl rfl rfl rfl rfl rfl (fun w hL => hcS w (Kn.old hL hg (by simp))) ?_))
      | (refine s_k 9 rfl ?_; (first | refine s_st1 tb rfl rfl rfl rfl rfl rfl rfl rfl ?_ | refine s_stA tb rfl rfl rfl rfl (by first | rfl | assumption | (apply Pv.size; assumption)) rfl rfl ?_); (first | refine' st0 ?qs ?_ | refine' st1 ?qs ?_ | refine' st2 ?qs ?_ | refine' st3 ?qs ?_ | refine' st4 ?qs ?_ | refine' st5 ?qs ?_ | refine' st6 ?qs ?_ | refine' st7 ?qs ?_ | refine' st8 ?qs ?_ | refine' st9 ?qs ?_ | refine' st10 ?qs ?_ | refine' st11 ?qs ?_); (case qs => (first | exact zSet)))
      | (refine s_k 3 rfl ?_; refine s_allocA (t := 66) rfl zImplHurdle rfl rfl rfl fun blk => ?_)
      | (refine s_k 36 rfl ?_; refine s_app2 hA rfl rfl rfl uHurdleS iHurdle rfl (by omega) (by simp) (by simp) rfl (by simp [Value.oneCell']) (by unfold maxLen; omega) (by omega) rfl rfl rfl fun g cap cur hA => ?_)
      | (refine s_k 12 rfl ?_; refine s_val rfl rfl rfl (r_nil rfl rfl) ?_)
      | (refine s_k 5 rfl ?_; first | refine s_val rfl rfl rfl (r_build rfl rfl (fun w => bSpot _ _ rfl rfl w)) ?_ | refine s_val rfl rfl rfl (r_build rfl rfl (fun w => bHurdleF _ _ w)) ?_ | refine s_val rfl rfl rfl (r_build rfl rfl (fun w => bHurdle _ _ _ rfl w)) ?_)
      | (refine s_k 6 rfl ?_; refine s_bsl rfl rfl (fun w => slHurdle1 _ _ _ w) rfl rfl rfl fun blk => ?_)
      | refine s_nil ?_)
          | (refine c_g ?_; first | refine c_seq ?_ | refine c_region ?_ | (refine c_gc ?_; first | refine c_cond1 rfl zTr ?_ | refine c_cond0 rfl zTr ?_ | refine z_condd1 rfl ?_ | refine z_condd0 rfl ?_ | refine z_conddn1 rfl ?_ | refine z_conddn0 rfl ?_ | refine c_condd rfl (fun hc => ?_) (fun hc => ?_) | refine c_conddn rfl (fun hc => ?_) (fun hc => ?_) | refine c_condn rfl (fun hc => ?_) (fun hc => ?_) | refine c_cond rfl (fun hc => ?_) (fun hc => ?_)) | refine c_block ?_ | refine c_skip ?_ | refine c_exit ?_ | refine c_ret ?_)
          | (refine e_g ?_; first | refine e_then ?_ | refine e_blkn ?_ | refine e_thenx ?_ | refine e_thenr ?_ | refine e_blkr ?_ | refine e_blkx ?_ | refine e_blky rfl ?_)
          | refine e_drop0 (e_drop0 (e_round (x + 1, g, cap, cur) (by simp; omega) ⟨by simp; omega, ?_⟩ ?hs rfl)))
        all_goals first
          | (case hs => rw [hsn]; (repeat' (first | exact sub_nil | refine sub_cons rfl ?_ | refine sub_cons' rfl (by simp [Nat.add_assoc]) ?_)); done)
          | (rw [hsn]; simpa [flH, Hd.cells, Nat.add_assoc] using hA)
    · have hxW : x = W := by omega
      subst hxW
      repeat' (first
        | (refine s_g ?_; first
      | (refine s_k 0 rfl ?_; refine s_val rfl rfl rfl (r_move rfl rfl) ?_)
      | (refine s_k 23 rfl ?_; first | refine s_val rfl rfl rfl (r_field tb rfl rfl rfl) ?_ | refine s_val rfl rfl rfl (r_fieldS tb rfl rfl rfl) ?_)
      | (refine s_k 8 rfl ?_; first | (refine' s_val rfl rfl rfl (r_ldv rfl rfl ?qm ?qv) ?_; (case qm => (exact zMm)); (case qv => (first | exact ldvL tb rfl rfl | exact ldv1 tb rfl (by assumption) | exact ldv1 tb rfl (h0) | exact zLd))) | (refine' s_val rfl rfl rfl (r_ldo rfl rfl ?qw (by simp) ?qv) ?_; (case qw => assumption); (case qv => (first | exact ldvL tb rfl rfl | exact ldv1 tb rfl (by assumption) | exact ldv1 tb rfl (h0) | exact zLd))))
      | (refine s_k 1 rfl ?_; refine s_val rfl rfl rfl (r_assign rfl rfl) ?_)
      | (refine s_k 13 rfl ?_; first | refine s_val rfl rfl rfl (r_lss rfl rfl rfl) ?_ | refine s_val rfl rfl rfl (r_add rfl rfl rfl (wrap_in (by simp only [lo, hi]; omega))) ?_)
      | (refine s_k 9 rfl ?_; (first | refine s_st1 tb rfl rfl rfl rfl rfl rfl rfl rfl ?_ | refine s_stA tb rfl rfl rfl rfl (by first | rfl | assumption | (apply Pv.size; assumption)) rfl rfl ?_); (first | refine' st0 ?qs ?_ | refine' st1 ?qs ?_ | refine' st2 ?qs ?_ | refine' st3 ?qs ?_ | refine' st4 ?qs ?_ | refine' st5 ?qs ?_ | refine' st6 ?qs ?_ | refine' st7 ?qs ?_ | refine' st8 ?qs ?_ | refine' st9 ?qs ?_ | refine' st10 ?qs ?_ | refine' st11 ?qs ?_); (case qs => (first | exact zSet)))
      | (refine s_k 12 rfl ?_; refine s_val rfl rfl rfl (r_nil rfl rfl) ?_)
      | refine s_nil ?_)
        | (refine c_g ?_; first | refine c_seq ?_ | refine c_region ?_ | (refine c_gc ?_; first | refine c_cond1 rfl zTr ?_ | refine c_cond0 rfl zTr ?_ | refine z_condd1 rfl ?_ | refine z_condd0 rfl ?_ | refine z_conddn1 rfl ?_ | refine z_conddn0 rfl ?_ | refine c_condd rfl (fun hc => ?_) (fun hc => ?_) | refine c_conddn rfl (fun hc => ?_) (fun hc => ?_) | refine c_condn rfl (fun hc => ?_) (fun hc => ?_) | refine c_cond rfl (fun hc => ?_) (fun hc => ?_)) | refine c_block ?_ | refine c_skip ?_ | refine c_exit ?_ | refine c_ret ?_)
        | (refine e_g ?_; first | refine e_then ?_ | refine e_blkn ?_ | refine e_thenx ?_ | refine e_thenr ?_ | refine e_blkr ?_ | refine e_blkx ?_ | refine e_blky rfl ?_)
        | refine e_round (y + 1, g, cap, cur) (by simp; omega) ⟨by simp; omega, ?_⟩ ?_ rfl)
      all_goals first
        | (rw [Nat.succ_mul]; exact sub_cons rfl (sub_cons' rfl (by simp) (by repeat' (first | exact sub_nil | refine sub_cons rfl ?_))))
        | (rw [Nat.succ_mul]; exact hA)
  · have hyH : y = H := by omega
    subst hyH
    repeat' (first
      | (refine s_g ?_; first
      | (refine s_k 0 rfl ?_; refine s_val rfl rfl rfl (r_move rfl rfl) ?_)
      | (refine s_k 23 rfl ?_; first | refine s_val rfl rfl rfl (r_field tb rfl rfl rfl) ?_ | refine s_val rfl rfl rfl (r_fieldS tb rfl rfl rfl) ?_)
      | (refine s_k 8 rfl ?_; first | (refine' s_val rfl rfl rfl (r_ldv rfl rfl ?qm ?qv) ?_; (case qm => (exact zMm)); (case qv => (first | exact ldvL tb rfl rfl | exact ldv1 tb rfl (by assumption) | exact ldv1 tb rfl (h1) | exact zLd))) | (refine' s_val rfl rfl rfl (r_ldo rfl rfl ?qw (by simp) ?qv) ?_; (case qw => assumption); (case qv => (first | exact ldvL tb rfl rfl | exact ldv1 tb rfl (by assumption) | exact ldv1 tb rfl (h1) | exact zLd))))
      | (refine s_k 1 rfl ?_; refine s_val rfl rfl rfl (r_assign rfl rfl) ?_)
      | (refine s_k 13 rfl ?_; first | refine s_val rfl rfl rfl (r_lss rfl rfl rfl) ?_ | refine s_val rfl rfl rfl (r_add rfl rfl rfl (wrap_in (by simp only [lo, hi]; omega))) ?_)
      | (refine s_k 9 rfl ?_; (first | refine s_st1 tb rfl rfl rfl rfl rfl rfl rfl rfl ?_ | refine s_stA tb rfl rfl rfl rfl (by first | rfl | assumption | (apply Pv.size; assumption)) rfl rfl ?_); (first | refine' st0 ?qs ?_ | refine' st1 ?qs ?_ | refine' st2 ?qs ?_ | refine' st3 ?qs ?_ | refine' st4 ?qs ?_ | refine' st5 ?qs ?_ | refine' st6 ?qs ?_ | refine' st7 ?qs ?_ | refine' st8 ?qs ?_ | refine' st9 ?qs ?_ | refine' st10 ?qs ?_ | refine' st11 ?qs ?_); (case qs => (first | exact zSet)))
      | (refine s_k 12 rfl ?_; refine s_val rfl rfl rfl (r_nil rfl rfl) ?_)
      | refine s_nil ?_)
      | (refine c_g ?_; first | refine c_seq ?_ | refine c_region ?_ | (refine c_gc ?_; first | refine c_cond1 rfl zTr ?_ | refine c_cond0 rfl zTr ?_ | refine z_condd1 rfl ?_ | refine z_condd0 rfl ?_ | refine z_conddn1 rfl ?_ | refine z_conddn0 rfl ?_ | refine c_condd rfl (fun hc => ?_) (fun hc => ?_) | refine c_conddn rfl (fun hc => ?_) (fun hc => ?_) | refine c_condn rfl (fun hc => ?_) (fun hc => ?_) | refine c_cond rfl (fun hc => ?_) (fun hc => ?_)) | refine c_block ?_ | refine c_skip ?_ | refine c_exit ?_ | refine c_ret ?_)
      | (refine e_g ?_; first | refine e_then ?_ | refine e_blkn ?_ | refine e_thenx ?_ | refine e_thenr ?_ | refine e_blkr ?_ | refine e_blkx ?_ | refine e_blky rfl ?_)
      | (refine e_ret1 (by simp) rfl (re_tmp rfl) fun w hL => NewS.of hA hL m0))
theorem filt_snoc {α : Type} {f : α → Bool} {l : List α} {k : Nat} {a : α} (h : l[k]? = some a) : (l.take (k + 1)).filter f = (l.take k).filter f ++ if f a then [a] else [] := by
  rw [List.take_add_one, h, List.filter_append]; simp [List.filter_cons]
end Go.Proofs.Ytnafnhpajkhgkaa
/- DeleteFunc over hurdles, for any closure that only looks. No condition but a length of at most 2^20. -/
namespace Go.Proofs.Ytnafnhpajkhgkaa
set_option linter.unusedVariables false
set_option linter.unusedSimpArgs false
open Go.RowKit Mem Wk
attribute [local irreducible] Calls Wk.S Wk.C Wk.E Wk.X Wk.T Calm.wpLex
theorem hd_one : ∀ u ∈ (Value.agg #[.int .i8 0, .int .i8 0, .bool false]).cells.toList, u.oneCell' = true := by simp [Value.cells, Value.oneCell']
theorem kept_atH {f : Hd → Bool} {l : List Hd} {j : Nat} {s : Hd} (hs : l[j]? = some s) (hf : f s = false) : (l.filter fun s => !f s)[((l.take j).filter fun s => !f s).length]? = some s := by
  have e : l = l.take j ++ s :: l.drop (j + 1) := by
    have hlt := (List.getElem?_eq_some_iff.1 hs).1
    rw [← (List.getElem?_eq_some_iff.1 hs).2, ← List.drop_eq_getElem_cons hlt, List.take_append_drop]
  have h2 : (l.filter fun s => !f s) = ((l.take j).filter fun s => !f s) ++ s :: ((l.drop (j + 1)).filter fun s => !f s) := by
    have h3 := congrArg (List.filter fun s => !f s) e
    rw [h3, List.filter_append, List.filter_cons, hf]; rfl
  rw [h2, List.getElem?_append_right (Nat.le_refl _), Nat.sub_self]; rfl
theorem filt_succH {f : Hd → Bool} {l : List Hd} {j : Nat} {s : Hd} (hs : l[j]? = some s) : ((l.take (j + 1)).filter fun s => !f s).length = ((l.take j).filter fun s => !f s).length + if f s then 0 else 1 := by
  rw [List.take_add_one, hs, List.filter_append]
  cases hf : f s <;> simp [hf]
theorem ext_elH {c : Array Value} {i : Nat} {s : Hd} (h0 : c[i * 3 + 0]? = some (.int .i8 s.x)) (h1 : c[i * 3 + 1]? = some (.int .i8 s.y)) (h2 : c[i * 3 + 2]? = some (.bool s.s)) : 0 + i * 3 + 3 ≤ c.size ∧ c.extract (0 + i * 3) (0 + i * 3 + 3) = s.cells.toArray := by
  have l1 := (Array.getElem?_eq_some_iff.1 h2).1
  refine ⟨by omega, ?_⟩
  apply Array.ext_getElem?
  intro k
  rw [Array.getElem?_extract]
  by_cases hk : k < 3
  · rw [if_pos (by omega)]
    match k, hk with
    | 0, _ => rw [show 0 + i * 3 + 0 = i * 3 + 0 by omega, h0]; simp [Hd.cells]
    | 1, _ => rw [show 0 + i * 3 + 1 = i * 3 + 1 by omega, h1]; simp [Hd.cells]
    | 2, _ => rw [show 0 + i * 3 + 2 = i * 3 + 2 by omega, h2]; simp [Hd.cells]
  · rw [if_neg (by omega), Array.getElem?_eq_none (by simp [Hd.cells]; omega)]
end Go.Proofs.Ytnafnhpajkhgkaa
