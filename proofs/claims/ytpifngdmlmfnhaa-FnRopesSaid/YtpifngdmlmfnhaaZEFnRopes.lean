/- FnRopes: the law holds for all arguments: no condition. -/
import Derived.Test.YtpifngdmlmfnhaaQE12
import Derived.Test.YtpifngdmlmfnhaaQE31
namespace Go.Proofs.Ytpifngdmlmfnhaa
set_option linter.unusedVariables false
set_option linter.unusedSimpArgs false
open Go.RowKit Mem Wk
attribute [local irreducible] Calls Wk.S Wk.C Wk.E Wk.X Wk.T Wk.Y Wk.Z Wk.anV Wk.orV Wk.andV Wk.shlV Wk.shrV Calm.wpLex CalmB.wpLex CalmE.wpLex
def byK : List (Option IntKind) := [some .u8]
theorem wf_u8 {n : Int} (h : (Lit.int .u8 n).wf = true) : 0 ≤ n ∧ n ≤ 255 := by
  simp [Lit.wf, IntKind.min, IntKind.max, IntKind.bits, IntKind.signed] at h
  omega
theorem by_of_flat {cs : List Value} (hs : cs.length = 1) (h : ∀ (i : Nat) (k : Option IntKind), byK[i]? = some k → ∃ u, cs[i]? = some u ∧ IsCell k u) : ∃ b : Int, cs = [Value.int .u8 b] ∧ 0 ≤ b ∧ b ≤ 255 := by
  obtain ⟨_, h0, x, rfl, w0⟩ := h 0 _ rfl
  refine ⟨x, ?_, (wf_u8 w0).1, (wf_u8 w0).2⟩
  match cs, hs with
  | [a], _ => simp at h0; simp [h0]
theorem byC_len (l : List Int) : (byC l).length = l.length := by simp [byC]
set_option maxRecDepth 100000 in
set_option maxHeartbeats 3200000 in
theorem FnRopes_walk (v0 : Value) (l0 : List Int) (v1 : Value) (l1 : List Int) (w : World) (hl0 : Sl w 1 v0 (byC l0)) (ho0 : ∀ b ∈ l0, 0 ≤ b ∧ b ≤ 255) (hl1 : Sl w 1 v1 (byC l1)) (ho1 : ∀ b ∈ l1, 0 ≤ b ∧ b ≤ 255) :
    Calls Try.prog 12 #[v0, v1] w fun e w' => e = .returned (.bool true) ∧ Below w.heap.size w w' := by
  obtain ⟨A0, cap0, rfl, _, _, hS0⟩ := hl0.open
  obtain ⟨A1, cap1, rfl, _, _, hS1⟩ := hl1.open
  by_cases hn0 : l0.length ≤ 4096
  case neg =>
    have hb0 : decide ((4096 : Int) < ((byC l0).length : Int)) = true := by rw [byC_len]; simp; omega
    refine enter2 Try.func12 rfl rfl rfl (Own.start w) ?_
    repeat' (first
      | (refine s_g ?_; first
      | (refine s_gd rfl ?_; first | refine s_gd1 rfl rfl zTr ?_ | refine s_gd0 rfl rfl rfl zTr ?_ | refine s_gd00 rfl rfl zTr ?_ | refine s_gdu rfl rfl rfl ?_ | refine s_gp1 rfl rfl rfl (fun hc => ?_) (fun hc => ?_) | refine s_gp0 rfl rfl rfl (fun hc => ?_) (fun hc => ?_) | refine s_gnp1 rfl rfl rfl (fun hc => ?_) (fun hc => ?_) | refine s_gnp0 rfl rfl rfl (fun hc => ?_) (fun hc => ?_) | refine s_gb1 rfl rfl rfl (fun hc => ?_) (fun hc => ?_) | refine s_gb0 rfl rfl rfl (fun hc => ?_) (fun hc => ?_) | refine s_gnb1 rfl rfl rfl (fun hc => ?_) (fun hc => ?_) | refine s_gnb0 rfl rfl rfl (fun hc => ?_) (fun hc => ?_))
      | (refine s_k 0 rfl ?_; refine s_val rfl rfl rfl (r_move rfl rfl) ?_)
      | (refine s_k 8 rfl ?_; first | (refine' s_val rfl rfl rfl (r_ldv rfl rfl ?qm ?qv) ?_; (case qm => (exact zMm)); (case qv => (exact zLe))) | (refine' s_val rfl rfl rfl (r_ldo rfl rfl ?qw (by simp) ?qv) ?_; (case qw => assumption); (case qv => (exact zLe))))
      | (refine s_k 1 rfl ?_; refine s_val rfl rfl rfl (r_assign rfl rfl) ?_)
      | (refine s_k 13 rfl ?_; first | refine s_val rfl rfl rfl (r_eql rfl rfl rfl) ?_ | refine s_val rfl rfl rfl (r_add rfl rfl rfl (wrap_in (by simp only [lo, hi]; omega))) ?_ | refine s_val rfl rfl rfl (r_sub rfl rfl rfl (wrap_in (by simp only [lo, hi]; omega))) ?_ | refine s_val rfl rfl rfl (r_leq rfl rfl rfl) ?_ | refine s_val rfl rfl rfl (r_geq rfl rfl rfl) ?_)
      | (refine s_k 35 rfl ?_; (refine s_call Try.func57 (by kernel_rfl) rfl rfl rfl rfl rfl rfl (fun w hL => f6big_any (byC l0) A0 cap0 _ true hb0) ?_))
      | (refine s_k 14 rfl ?_; first | refine s_val rfl rfl rfl (r_not rfl rfl) ?_ | refine s_val rfl rfl rfl (r_neg rfl rfl (wrap_in (by simp only [lo, hi]; omega))) ?_)
      | (refine s_k 2 rfl ?_; first | refine s_val rfl rfl rfl (r_pick1 rfl rfl zTr rfl) ?_ | refine s_val rfl rfl rfl (r_pick0 rfl rfl zTr rfl) ?_)
      | (refine s_k 25 rfl ?_; first | refine s_val rfl rfl rfl (r_ixN tb rfl rfl rfl rfl (by omega)) ?_ | refine s_val rfl rfl rfl (r_ixA tb rfl rfl rfl rfl (by omega) (by omega)) ?_ | refine s_val rfl rfl rfl (r_ixO tb rfl rfl rfl rfl (by omega)) ?_)
      | (refine s_k 9 rfl ?_; (first | refine s_st1 tb rfl rfl rfl rfl rfl rfl rfl rfl ?_ | refine s_stA tb rfl rfl rfl rfl (by first | rfl | assumption | (apply Pv.size; assumption)) rfl rfl ?_); (first | refine' st0 ?qs ?_ | refine' st1 ?qs ?_ | refine' st2 ?qs ?_ | refine' st3 ?qs ?_ | refine' st4 ?qs ?_ | refine' st5 ?qs ?_ | refine' st6 ?qs ?_ | refine' st7 ?qs ?_ | refine' st8 ?qs ?_ | refine' st9 ?qs ?_ | refine' st10 ?qs ?_ | refine' st11 ?qs ?_); (case qs => (first | exact zSet)))
      | (refine s_k 36 rfl ?_; refine s_val rfl rfl rfl (r_len tb rfl rfl rfl) ?_)
      | (refine s_k 34 rfl ?_; refine s_val rfl rfl rfl (r_extractL rfl rfl rfl) ?_)
      | refine s_nil ?_)
      | (refine c_g ?_; first | refine c_seq ?_ | refine c_region ?_ | (refine c_gc ?_; first | refine c_cond1 rfl zTr ?_ | refine c_cond0 rfl zTr ?_ | refine z_condd1 rfl ?_ | refine z_condd0 rfl ?_ | refine z_conddn1 rfl ?_ | refine z_conddn0 rfl ?_ | refine c_condd rfl (fun hc => ?_) (fun hc => ?_) | refine c_conddn rfl (fun hc => ?_) (fun hc => ?_) | refine c_condn rfl (fun hc => ?_) (fun hc => ?_) | refine c_cond rfl (fun hc => ?_) (fun hc => ?_)) | refine c_block ?_ | refine c_skip ?_ | refine c_exit ?_ | refine c_ret ?_)
      | (refine e_g ?_; first | refine e_then ?_ | refine e_blkn ?_ | refine e_thenx ?_ | refine e_thenr ?_ | refine e_blkr ?_ | refine e_blkx ?_ | refine e_blky rfl ?_)
      | (refine e_ret1 (by simp) rfl (re_tmp rfl) fun w hL => ⟨rfl, hL.toBelow⟩))
  case pos =>
    have hb0 : decide ((4096 : Int) < ((byC l0).length : Int)) = false := by rw [byC_len]; simp; omega
    by_cases hn1 : l1.length ≤ 4096
    case neg =>
      have hb1 : decide ((4096 : Int) < ((byC l1).length : Int)) = true := by rw [byC_len]; simp; omega
      refine enter2 Try.func12 rfl rfl rfl (Own.start w) ?_
      repeat' (first
        | (refine s_g ?_; first
      | (refine s_gd rfl ?_; first | refine s_gd1 rfl rfl zTr ?_ | refine s_gd0 rfl rfl rfl zTr ?_ | refine s_gd00 rfl rfl zTr ?_ | refine s_gp1 rfl rfl rfl (fun hc => ?_) (fun hc => ?_) | refine s_gp0 rfl rfl rfl (fun hc => ?_) (fun hc => ?_) | refine s_gnp1 rfl rfl rfl (fun hc => ?_) (fun hc => ?_) | refine s_gnp0 rfl rfl rfl (fun hc => ?_) (fun hc => ?_) | refine s_gb1 rfl rfl rfl (fun hc => ?_) (fun hc => ?_) | refine s_gb0 rfl rfl rfl (fun hc => ?_) (fun hc => ?_) | refine s_gnb1 rfl rfl rfl (fun hc => ?_) (fun hc => ?_) | refine s_gnb0 rfl rfl rfl (fun hc => ?_) (fun hc => ?_))
      | (refine s_k 0 rfl ?_; refine s_val rfl rfl rfl (r_move rfl rfl) ?_)
      | (refine s_k 8 rfl ?_; first | (refine' s_val rfl rfl rfl (r_ldv rfl rfl ?qm ?qv) ?_; (case qm => (exact zMm)); (case qv => (exact zLe))) | (refine' s_val rfl rfl rfl (r_ldo rfl rfl ?qw (by simp) ?qv) ?_; (case qw => assumption); (case qv => (exact zLe))))
      | (refine s_k 1 rfl ?_; refine s_val rfl rfl rfl (r_assign rfl rfl) ?_)
      | (refine s_k 13 rfl ?_; first | refine s_val rfl rfl rfl (r_eql rfl rfl rfl) ?_ | refine s_val rfl rfl rfl (r_add rfl rfl rfl (wrap_in (by simp only [lo, hi]; omega))) ?_ | refine s_val rfl rfl rfl (r_sub rfl rfl rfl (wrap_in (by simp only [lo, hi]; omega))) ?_ | refine s_val rfl rfl rfl (r_leq rfl rfl rfl) ?_ | refine s_val rfl rfl rfl (r_geq rfl rfl rfl) ?_)
      | (refine s_k 35 rfl ?_; first | (refine s_call Try.func57 (by kernel_rfl) rfl rfl rfl rfl rfl rfl (fun w hL => f6big_any (byC l0) A0 cap0 _ false hb0) ?_) | (refine s_call Try.func57 (by kernel_rfl) rfl rfl rfl rfl rfl rfl (fun w hL => f6big_any (byC l1) A1 cap1 _ true hb1) ?_))
      | (refine s_k 14 rfl ?_; first | refine s_val rfl rfl rfl (r_not rfl rfl) ?_ | refine s_val rfl rfl rfl (r_neg rfl rfl (wrap_in (by simp only [lo, hi]; omega))) ?_)
      | (refine s_k 2 rfl ?_; first | refine s_val rfl rfl rfl (r_pick1 rfl rfl zTr rfl) ?_ | refine s_val rfl rfl rfl (r_pick0 rfl rfl zTr rfl) ?_)
      | (refine s_k 25 rfl ?_; first | refine s_val rfl rfl rfl (r_ixN tb rfl rfl rfl rfl (by omega)) ?_ | refine s_val rfl rfl rfl (r_ixA tb rfl rfl rfl rfl (by omega) (by omega)) ?_ | refine s_val rfl rfl rfl (r_ixO tb rfl rfl rfl rfl (by omega)) ?_)
      | (refine s_k 9 rfl ?_; (first | refine s_st1 tb rfl rfl rfl rfl rfl rfl rfl rfl ?_ | refine s_stA tb rfl rfl rfl rfl (by first | rfl | assumption | (apply Pv.size; assumption)) rfl rfl ?_); (first | refine' st0 ?qs ?_ | refine' st1 ?qs ?_ | refine' st2 ?qs ?_ | refine' st3 ?qs ?_ | refine' st4 ?qs ?_ | refine' st5 ?qs ?_ | refine' st6 ?qs ?_ | refine' st7 ?qs ?_ | refine' st8 ?qs ?_ | refine' st9 ?qs ?_ | refine' st10 ?qs ?_ | refine' st11 ?qs ?_); (case qs => (first | exact zSet)))
      | (refine s_k 36 rfl ?_; refine s_val rfl rfl rfl (r_len tb rfl rfl rfl) ?_)
      | (refine s_k 34 rfl ?_; refine s_val rfl rfl rfl (r_extractL rfl rfl rfl) ?_)
      | refine s_nil ?_)
        | (refine c_g ?_; first | refine c_seq ?_ | refine c_region ?_ | (refine c_gc ?_; first | refine c_cond1 rfl zTr ?_ | refine c_cond0 rfl zTr ?_ | refine z_condd1 rfl ?_ | refine z_condd0 rfl ?_ | refine z_conddn1 rfl ?_ | refine z_conddn0 rfl ?_ | refine c_condd rfl (fun hc => ?_) (fun hc => ?_) | refine c_conddn rfl (fun hc => ?_) (fun hc => ?_) | refine c_condn rfl (fun hc => ?_) (fun hc => ?_) | refine c_cond rfl (fun hc => ?_) (fun hc => ?_)) | refine c_block ?_ | refine c_skip ?_ | refine c_exit ?_ | refine c_ret ?_)
        | (refine e_g ?_; first | refine e_then ?_ | refine e_blkn ?_ | refine e_thenx ?_ | refine e_thenr ?_ | refine e_blkr ?_ | refine e_blkx ?_ | refine e_blky rfl ?_)
        | (refine e_ret1 (by simp) rfl (re_tmp rfl) fun w hL => ⟨rfl, hL.toBelow⟩))
    case pos =>
      have hb1 : decide ((4096 : Int) < ((byC l1).length : Int)) = false := by rw [byC_len]; simp; omega
      have c57a := fun w => f6big_any (byC l0) A0 cap0 w false hb0
      have c57b := fun w => f6big_any (byC l1) A1 cap1 w false hb1
      rw [byC_len] at c57a c57b hl0 hl1 ⊢
      rw [byC_len]
      refine enter2 Try.func12 rfl rfl rfl (Own.start w) ?_
      repeat' (first
        | (refine s_g ?_; first
      | (refine s_gd rfl ?_; first | refine s_gd1 rfl rfl zTr ?_ | refine s_gd0 rfl rfl rfl zTr ?_ | refine s_gd00 rfl rfl zTr ?_ | refine s_gp1 rfl rfl rfl (fun hc => ?_) (fun hc => ?_) | refine s_gp0 rfl rfl rfl (fun hc => ?_) (fun hc => ?_) | refine s_gnp1 rfl rfl rfl (fun hc => ?_) (fun hc => ?_) | refine s_gnp0 rfl rfl rfl (fun hc => ?_) (fun hc => ?_) | refine s_gb1 rfl rfl rfl (fun hc => ?_) (fun hc => ?_) | refine s_gb0 rfl rfl rfl (fun hc => ?_) (fun hc => ?_) | refine s_gnb1 rfl rfl rfl (fun hc => ?_) (fun hc => ?_) | refine s_gnb0 rfl rfl rfl (fun hc => ?_) (fun hc => ?_))
      | (refine s_k 0 rfl ?_; refine s_val rfl rfl rfl (r_move rfl rfl) ?_)
      | (refine s_k 8 rfl ?_; first | (refine' s_val rfl rfl rfl (r_ldv rfl rfl ?qm ?qv) ?_; (case qm => (exact zMm)); (case qv => (exact zLe))) | (refine' s_val rfl rfl rfl (r_ldo rfl rfl ?qw (by simp) ?qv) ?_; (case qw => assumption); (case qv => (exact zLe))))
      | (refine s_k 1 rfl ?_; refine s_val rfl rfl rfl (r_assign rfl rfl) ?_)
      | (refine s_k 13 rfl ?_; first | refine s_val rfl rfl rfl (r_eql rfl rfl rfl) ?_ | refine s_val rfl rfl rfl (r_add rfl rfl rfl (wrap_in (by simp only [lo, hi]; omega))) ?_ | refine s_val rfl rfl rfl (r_sub rfl rfl rfl (wrap_in (by simp only [lo, hi]; omega))) ?_ | refine s_val rfl rfl rfl (r_leq rfl rfl rfl) ?_ | refine s_val rfl rfl rfl (r_geq rfl rfl rfl) ?_)
      | (refine s_k 35 rfl ?_; first | (refine s_call Try.func57 (by kernel_rfl) rfl rfl rfl rfl rfl rfl (fun w hL => c57a _) ?_) | (refine s_call Try.func57 (by kernel_rfl) rfl rfl rfl rfl rfl rfl (fun w hL => c57b _) ?_) | (refine s_callX (ι := (Nat → Int) × Array Value) (fun i => Pv i.1 i.2 ∧ validP i.1 = true ∧ small i.1) (fun i => .agg i.2) Try.func58 (by kernel_rfl) rfl rfl rfl rfl rfl rfl (fun w hL => P6Pasture_any l0 A0 cap0 w (hS0.at_ hL) ho0 (by omega)) (fun i hi => ?_); obtain ⟨p, cs⟩ := i; simp only at hi ⊢; obtain ⟨hpq, hv, hsm⟩ := hi; have hsz := hpq.size) | (refine s_callX (ι := Sp) (fun c => isC (p 0) (p 1) c.x c.y = true) (fun c => .agg #[.int .i8 c.x, .int .i8 c.y]) Try.func59 (by kernel_rfl) rfl rfl rfl rfl rfl rfl (fun w hL => P6Spot_any l1 A1 cap1 p cs w hpq hsm (hS1.at_ hL) ho1 (by omega)) (fun c ha => ?_)) | (refine s_callW Try.func60 (by kernel_rfl) rfl rfl rfl rfl rfl rfl (fun w hL => P6Walk_any l0 A0 cap0 p cs c w hpq hsm ha (hS0.at_ hL) ho0 (by omega)) fun l g7 k7 cap7 cur7 hR hA7 => ?_; obtain rfl := hA7.cnt))
      | (refine s_k 14 rfl ?_; first | refine s_val rfl rfl rfl (r_not rfl rfl) ?_ | refine s_val rfl rfl rfl (r_neg rfl rfl (wrap_in (by simp only [lo, hi]; omega))) ?_)
      | (refine s_k 2 rfl ?_; first | refine s_val rfl rfl rfl (r_pick1 rfl rfl zTr rfl) ?_ | refine s_val rfl rfl rfl (r_pick0 rfl rfl zTr rfl) ?_)
      | (refine s_k 25 rfl ?_; first | refine s_val rfl rfl rfl (r_ixN tb rfl rfl rfl rfl (by omega)) ?_ | refine s_val rfl rfl rfl (r_ixA tb rfl rfl rfl rfl (by omega) (by omega)) ?_ | refine s_val rfl rfl rfl (r_ixO tb rfl rfl rfl rfl (by omega)) ?_)
      | (refine s_k 9 rfl ?_; (first | refine s_st1 tb rfl rfl rfl rfl rfl rfl rfl rfl ?_ | refine s_stA tb rfl rfl rfl rfl (by first | rfl | assumption | (apply Pv.size; assumption)) rfl rfl ?_); (first | refine' st0 ?qs ?_ | refine' st1 ?qs ?_ | refine' st2 ?qs ?_ | refine' st3 ?qs ?_ | refine' st4 ?qs ?_ | refine' st5 ?qs ?_ | refine' st6 ?qs ?_ | refine' st7 ?qs ?_ | refine' st8 ?qs ?_ | refine' st9 ?qs ?_ | refine' st10 ?qs ?_ | refine' st11 ?qs ?_); (case qs => (first | exact setP hpq rfl | exact set_whole (vs := #[.int .i8 c.x, .int .i8 c.y]) rfl (by simp [Value.oneCell']) | exact zSet)))
      | (refine s_k 3 rfl ?_; first | refine s_allocA (t := 34) rfl zImplPas rfl rfl rfl fun blk => ?_ | refine s_allocA (t := 88) rfl zImplSpot rfl rfl rfl fun blk => ?_)
      | (refine s_k 36 rfl ?_; refine s_val rfl rfl rfl (r_len tb rfl rfl rfl) ?_)
      | (refine s_k 34 rfl ?_; refine s_val rfl rfl rfl (r_extractL rfl rfl rfl) ?_)
      | refine s_nil ?_)
        | (refine c_g ?_; first | refine c_seq ?_ | refine c_region ?_ | (refine c_gc ?_; first | refine c_cond1 rfl zTr ?_ | refine c_cond0 rfl zTr ?_ | refine z_condd1 rfl ?_ | refine z_condd0 rfl ?_ | refine z_conddn1 rfl ?_ | refine z_conddn0 rfl ?_ | refine c_condd rfl (fun hc => ?_) (fun hc => ?_) | refine c_conddn rfl (fun hc => ?_) (fun hc => ?_) | refine c_condn rfl (fun hc => ?_) (fun hc => ?_) | refine c_cond rfl (fun hc => ?_) (fun hc => ?_)) | refine c_block ?_ | refine c_skip ?_ | refine c_exit ?_ | refine c_ret ?_)
        | (refine e_g ?_; first | refine e_then ?_ | refine e_blkn ?_ | refine e_thenx ?_ | refine e_thenr ?_ | refine e_blkr ?_ | refine e_blkx ?_ | refine e_blky rfl ?_))
      all_goals (rename_i b5; generalize blk = b6 at *)
      · obtain rfl : l = [] := List.length_eq_zero_iff.1 (by omega)
        have hvw := fun w T hg => implVW_any (w := w) hpq ha (hA7.toSl (lenSp []) (by omega) (g := g7) (T := T) hg) (by simp)
        rw [wkV_nil] at hvw
        repeat' (first
          | (refine s_g ?_; first
      | (refine s_gd rfl ?_; first | refine s_gd1 rfl rfl zTr ?_ | refine s_gd0 rfl rfl rfl zTr ?_ | refine s_gd00 rfl rfl zTr ?_ | refine s_gp1 rfl rfl rfl (fun hc => ?_) (fun hc => ?_) | refine s_gp0 rfl rfl rfl (fun hc => ?_) (fun hc => ?_) | refine s_gnp1 rfl rfl rfl (fun hc => ?_) (fun hc => ?_) | refine s_gnp0 rfl rfl rfl (fun hc => ?_) (fun hc => ?_) | refine s_gb1 rfl rfl rfl (fun hc => ?_) (fun hc => ?_) | refine s_gb0 rfl rfl rfl (fun hc => ?_) (fun hc => ?_) | refine s_gnb1 rfl rfl rfl (fun hc => ?_) (fun hc => ?_) | refine s_gnb0 rfl rfl rfl (fun hc => ?_) (fun hc => ?_))
      | (refine s_k 0 rfl ?_; refine s_val rfl rfl rfl (r_move rfl rfl) ?_)
      | (refine s_k 8 rfl ?_; first | (refine' s_val rfl rfl rfl (r_ldv rfl rfl ?qm ?qv) ?_; (case qm => (exact zMm)); (case qv => (exact zLe))) | (refine' s_val rfl rfl rfl (r_ldo rfl rfl ?qw (by simp) ?qv) ?_; (case qw => assumption); (case qv => (exact zLe))))
      | (refine s_k 1 rfl ?_; refine s_val rfl rfl rfl (r_assign rfl rfl) ?_)
      | (refine s_k 13 rfl ?_; first | refine s_val rfl rfl rfl (r_eql rfl rfl rfl) ?_ | refine s_val rfl rfl rfl (r_add rfl rfl rfl (wrap_in (by simp only [lo, hi]; omega))) ?_ | refine s_val rfl rfl rfl (r_sub rfl rfl rfl (wrap_in (by simp only [lo, hi]; omega))) ?_ | refine s_val rfl rfl rfl (r_leq rfl rfl rfl) ?_ | refine s_val rfl rfl rfl (r_geq rfl rfl rfl) ?_)
      | (refine s_k 35 rfl ?_; (refine s_call Try.func61 (by kernel_rfl) rfl rfl rfl rfl rfl rfl (fun w hL => hvw _ _ (hL.at_ m0)) ?_))
      | (refine s_k 14 rfl ?_; first | refine s_val rfl rfl rfl (r_not rfl rfl) ?_ | refine s_val rfl rfl rfl (r_neg rfl rfl (wrap_in (by simp only [lo, hi]; omega))) ?_)
      | (refine s_k 2 rfl ?_; first | refine s_val rfl rfl rfl (r_pick1 rfl rfl zTr rfl) ?_ | refine s_val rfl rfl rfl (r_pick0 rfl rfl zTr rfl) ?_)
      | (refine s_k 25 rfl ?_; first | refine s_val rfl rfl rfl (r_ixN tb rfl rfl rfl rfl (by omega)) ?_ | refine s_val rfl rfl rfl (r_ixA tb rfl rfl rfl rfl (by omega) (by omega)) ?_ | refine s_val rfl rfl rfl (r_ixO tb rfl rfl rfl rfl (by omega)) ?_)
      | (refine s_k 9 rfl ?_; (first | refine s_st1 tb rfl rfl rfl rfl rfl rfl rfl rfl ?_ | refine s_stA tb rfl rfl rfl rfl (by first | rfl | assumption | (apply Pv.size; assumption)) rfl rfl ?_); (first | refine' st0 ?qs ?_ | refine' st1 ?qs ?_ | refine' st2 ?qs ?_ | refine' st3 ?qs ?_ | refine' st4 ?qs ?_ | refine' st5 ?qs ?_ | refine' st6 ?qs ?_ | refine' st7 ?qs ?_ | refine' st8 ?qs ?_ | refine' st9 ?qs ?_ | refine' st10 ?qs ?_ | refine' st11 ?qs ?_); (case qs => (first | exact zSet)))
      | (refine s_k 36 rfl ?_; refine s_val rfl rfl rfl (r_len tb rfl rfl rfl) ?_)
      | (refine s_k 34 rfl ?_; refine s_val rfl rfl rfl (r_extractL rfl rfl rfl) ?_)
      | refine s_nil ?_)
          | (refine c_g ?_; first | refine c_seq ?_ | refine c_region ?_ | (refine c_gc ?_; first | refine c_cond1 rfl zTr ?_ | refine c_cond0 rfl zTr ?_ | refine z_condd1 rfl ?_ | refine z_condd0 rfl ?_ | refine z_conddn1 rfl ?_ | refine z_conddn0 rfl ?_ | refine c_condd rfl (fun hc => ?_) (fun hc => ?_) | refine c_conddn rfl (fun hc => ?_) (fun hc => ?_) | refine c_condn rfl (fun hc => ?_) (fun hc => ?_) | refine c_cond rfl (fun hc => ?_) (fun hc => ?_)) | refine c_block ?_ | refine c_skip ?_ | refine c_exit ?_ | refine c_ret ?_)
          | (refine e_g ?_; first | refine e_then ?_ | refine e_blkn ?_ | refine e_thenx ?_ | refine e_thenr ?_ | refine e_blkr ?_ | refine e_blkx ?_ | refine e_blky rfl ?_)
          | (refine e_ret1 (by simp) rfl (re_tmp rfl) fun w hL => ⟨rfl, hL.toBelow⟩))
      · obtain ⟨hW, hl24⟩ := hR
        have hlp : 1 ≤ l.length := by omega
        have hl20 : l.length ≤ 200 := by omega
        repeat' (first
          | (refine s_g ?_; first
      | (refine s_gd rfl ?_; first | refine s_gd1 rfl rfl zTr ?_ | refine s_gd0 rfl rfl rfl zTr ?_ | refine s_gd00 rfl rfl zTr ?_ | refine s_gp1 rfl rfl rfl (fun hc => ?_) (fun hc => ?_) | refine s_gp0 rfl rfl rfl (fun hc => ?_) (fun hc => ?_) | refine s_gnp1 rfl rfl rfl (fun hc => ?_) (fun hc => ?_) | refine s_gnp0 rfl rfl rfl (fun hc => ?_) (fun hc => ?_) | refine s_gb1 rfl rfl rfl (fun hc => ?_) (fun hc => ?_) | refine s_gb0 rfl rfl rfl (fun hc => ?_) (fun hc => ?_) | refine s_gnb1 rfl rfl rfl (fun hc => ?_) (fun hc => ?_) | refine s_gnb0 rfl rfl rfl (fun hc => ?_) (fun hc => ?_))
      | (refine s_k 0 rfl ?_; refine s_val rfl rfl rfl (r_move rfl rfl) ?_)
      | (refine s_k 8 rfl ?_; first | (refine' s_val rfl rfl rfl (r_ldv rfl rfl ?qm ?qv) ?_; (case qm => (exact zMm)); (case qv => (exact zLe))) | (refine' s_val rfl rfl rfl (r_ldo rfl rfl ?qw (by simp) ?qv) ?_; (case qw => assumption); (case qv => (exact zLe))))
      | (refine s_k 1 rfl ?_; refine s_val rfl rfl rfl (r_assign rfl rfl) ?_)
      | (refine s_k 13 rfl ?_; first | refine s_val rfl rfl rfl (r_eql rfl rfl rfl) ?_ | refine s_val rfl rfl rfl (r_add rfl rfl rfl (wrap_in (by simp only [lo, hi]; omega))) ?_ | refine s_val rfl rfl rfl (r_sub rfl rfl rfl (wrap_in (by simp only [lo, hi]; omega))) ?_ | refine s_val rfl rfl rfl (r_leq rfl rfl rfl) ?_ | refine s_val rfl rfl rfl (r_geq rfl rfl rfl) ?_)
      | (refine s_k 14 rfl ?_; first | refine s_val rfl rfl rfl (r_not rfl rfl) ?_ | refine s_val rfl rfl rfl (r_neg rfl rfl (wrap_in (by simp only [lo, hi]; omega))) ?_)
      | (refine s_k 2 rfl ?_; first | refine s_val rfl rfl rfl (r_pick1 rfl rfl zTr rfl) ?_ | refine s_val rfl rfl rfl (r_pick0 rfl rfl zTr rfl) ?_)
      | (refine s_k 25 rfl ?_; first | refine s_val rfl rfl rfl (r_ixN tb rfl rfl rfl rfl (by omega)) ?_ | refine s_val rfl rfl rfl (r_ixA tb rfl rfl rfl rfl (by omega) (by omega)) ?_ | refine s_val rfl rfl rfl (r_ixO tb rfl rfl rfl rfl (by omega)) ?_)
      | (refine s_k 9 rfl ?_; (first | refine s_st1 tb rfl rfl rfl rfl rfl rfl rfl rfl ?_ | refine s_stA tb rfl rfl rfl rfl (by first | rfl | assumption | (apply Pv.size; assumption)) rfl rfl ?_); (first | refine' st0 ?qs ?_ | refine' st1 ?qs ?_ | refine' st2 ?qs ?_ | refine' st3 ?qs ?_ | refine' st4 ?qs ?_ | refine' st5 ?qs ?_ | refine' st6 ?qs ?_ | refine' st7 ?qs ?_ | refine' st8 ?qs ?_ | refine' st9 ?qs ?_ | refine' st10 ?qs ?_ | refine' st11 ?qs ?_); (case qs => (first | exact zSet)))
      | (refine s_k 36 rfl ?_; refine s_val rfl rfl rfl (r_len tb rfl rfl rfl) ?_)
      | (refine s_k 34 rfl ?_; refine s_val rfl rfl rfl (r_extractL rfl rfl rfl) ?_)
      | (refine s_k 6 rfl ?_; refine s_bsl rfl rfl (fun w => slSpot0 w) rfl rfl rfl fun blk => ?_)
      | refine s_nil ?_)
          | (refine c_g ?_; first | refine c_seq ?_ | refine c_region ?_ | (refine c_gc ?_; first | refine c_cond1 rfl zTr ?_ | refine c_cond0 rfl zTr ?_ | refine z_condd1 rfl ?_ | refine z_condd0 rfl ?_ | refine z_conddn1 rfl ?_ | refine z_conddn0 rfl ?_ | refine c_condd rfl (fun hc => ?_) (fun hc => ?_) | refine c_conddn rfl (fun hc => ?_) (fun hc => ?_) | refine c_condn rfl (fun hc => ?_) (fun hc => ?_) | refine c_cond rfl (fun hc => ?_) (fun hc => ?_)) | refine c_block ?_ | refine c_skip ?_ | refine c_exit ?_ | refine c_ret ?_)
          | (refine e_g ?_; first | refine e_then ?_ | refine e_blkn ?_ | refine e_thenx ?_ | refine e_thenr ?_ | refine e_blkr ?_ | refine e_blkx ?_ | refine e_blky rfl ?_))
        refine c_loop (ι := Nat × Nat × Nat × Array Value) (fun i => l.length - i.1) (fun i => i.1 ≤ l.length ∧ Ap 2 i.1 i.2.2.1 i.2.2.2 (flS (l.reverse.take i.1))) (fun i => [(9, .int .i64 ((l.length : Int) - 1 - (i.1 : Int))), (8, .slice (some ⟨i.2.1, 0, none⟩) i.1 i.2.2.1), (7, .slice (some ⟨g7, 0, none⟩) l.length cap7), (6, .pointer (some ⟨b6, 0, none⟩)), (5, .pointer (some ⟨b5, 0, none⟩)), (1, .slice A1 l1.length cap1)]) (fun i => [(i.2.1, 88, i.2.2.2), (g7, 88, cur7), (b6, 88, #[.int .i8 c.x, .int .i8 c.y]), (b5, 34, cs)]) (0, blk, 0, #[]) ⟨by simp, by simp only [List.take_zero]; exact Ap.nil 2⟩ ?hs rfl ?_
        case hs => (repeat' (first | exact sub_nil | refine sub_cons rfl ?_ | refine sub_cons' rfl (by simp) ?_))
        rintro ⟨j, g8, cap8, cur8⟩ ⟨hj, hA8⟩
        simp only at hj hA8 ⊢
        by_cases hlt : j < l.length
        · have hm : (l.length : Int) - 1 - (j : Int) = ((l.length - 1 - j : Nat) : Int) := by omega
          have hml : l.length - 1 - j < l.length := by omega
          rw [hm]
          have hx : l[l.length - 1 - j]? = some l[l.length - 1 - j] := List.getElem?_eq_getElem hml
          have hxr : l.reverse[j]? = some l[l.length - 1 - j] := by rw [List.getElem?_reverse hlt]; exact hx
          have htk : flS (l.reverse.take (j + 1)) = flS (l.reverse.take j) ++ (l[l.length - 1 - j]).cells := by rw [List.take_add_one, hxr, flS_append]; simp [flS]
          generalize l[l.length - 1 - j] = t at *
          generalize hmm : l.length - 1 - j = m at *
          repeat' (first
            | (refine s_g ?_; first
      | (refine s_gd rfl ?_; first | refine s_gd1 rfl rfl zTr ?_ | refine s_gd0 rfl rfl rfl zTr ?_ | refine s_gd00 rfl rfl zTr ?_ | refine s_gp1 rfl rfl rfl (fun hc => ?_) (fun hc => ?_) | refine s_gp0 rfl rfl rfl (fun hc => ?_) (fun hc => ?_) | refine s_gnp1 rfl rfl rfl (fun hc => ?_) (fun hc => ?_) | refine s_gnp0 rfl rfl rfl (fun hc => ?_) (fun hc => ?_) | refine s_gb1 rfl rfl rfl (fun hc => ?_) (fun hc => ?_) | refine s_gb0 rfl rfl rfl (fun hc => ?_) (fun hc => ?_) | refine s_gnb1 rfl rfl rfl (fun hc => ?_) (fun hc => ?_) | refine s_gnb0 rfl rfl rfl (fun hc => ?_) (fun hc => ?_))
      | (refine s_k 0 rfl ?_; refine s_val rfl rfl rfl (r_move rfl rfl) ?_)
      | (refine s_k 8 rfl ?_; first | refine s_val rfl rfl rfl (r_ldN tb rfl rfl m1 rfl (hA7.spot hx).1 (hA7.spot hx).2) ?_ | (refine' s_val rfl rfl rfl (r_ldv rfl rfl ?qm ?qv) ?_; (case qm => (exact zMm)); (case qv => (exact zLe))) | (refine' s_val rfl rfl rfl (r_ldo rfl rfl ?qw (by simp) ?qv) ?_; (case qw => assumption); (case qv => (exact zLe))))
      | (refine s_k 1 rfl ?_; refine s_val rfl rfl rfl (r_assign rfl rfl) ?_)
      | (refine s_k 13 rfl ?_; first | refine s_val rfl rfl rfl (r_eql rfl rfl rfl) ?_ | refine s_val rfl rfl rfl (r_add rfl rfl rfl (wrap_in (by simp only [lo, hi]; omega))) ?_ | refine s_val rfl rfl rfl (r_sub rfl rfl rfl (wrap_in (by simp only [lo, hi]; omega))) ?_ | refine s_val rfl rfl rfl (r_leq rfl rfl rfl) ?_ | refine s_val rfl rfl rfl (r_geq rfl rfl rfl) ?_)
      | (refine s_k 14 rfl ?_; first | refine s_val rfl rfl rfl (r_not rfl rfl) ?_ | refine s_val rfl rfl rfl (r_neg rfl rfl (wrap_in (by simp only [lo, hi]; omega))) ?_)
      | (refine s_k 2 rfl ?_; first | refine s_val rfl rfl rfl (r_pick1 rfl rfl zTr rfl) ?_ | refine s_val rfl rfl rfl (r_pick0 rfl rfl zTr rfl) ?_)
      | (refine s_k 25 rfl ?_; first | refine s_val rfl rfl rfl (r_ixO tb rfl rfl rfl rfl hml) ?_ | refine s_val rfl rfl rfl (r_ixN tb rfl rfl rfl rfl (by omega)) ?_ | refine s_val rfl rfl rfl (r_ixA tb rfl rfl rfl rfl (by omega) (by omega)) ?_ | refine s_val rfl rfl rfl (r_ixO tb rfl rfl rfl rfl (by omega)) ?_)
      | (refine s_k 9 rfl ?_; (first | refine s_st1 tb rfl rfl rfl rfl rfl rfl rfl rfl ?_ | refine s_stA tb rfl rfl rfl rfl (by first | rfl | assumption | (apply Pv.size; assumption)) rfl rfl ?_); (first | refine' st0 ?qs ?_ | refine' st1 ?qs ?_ | refine' st2 ?qs ?_ | refine' st3 ?qs ?_ | refine' st4 ?qs ?_ | refine' st5 ?qs ?_ | refine' st6 ?qs ?_ | refine' st7 ?qs ?_ | refine' st8 ?qs ?_ | refine' st9 ?qs ?_ | refine' st10 ?qs ?_ | refine' st11 ?qs ?_); (case qs => (first | exact zSet)))
      | (refine s_k 36 rfl ?_; first | refine s_app0 hA8 rfl rfl rfl uSpotS iSpot rfl (by omega) (by simp) (by simp) rfl (by simp [Value.oneCell']) (by unfold maxLen; omega) (by omega) rfl rfl rfl fun g' cap' cur' hA' => ?_ | refine s_val rfl rfl rfl (r_len tb rfl rfl rfl) ?_)
      | (refine s_k 34 rfl ?_; refine s_val rfl rfl rfl (r_extractL rfl rfl rfl) ?_)
      | (refine s_k 6 rfl ?_; refine s_bsl rfl rfl (fun w => slSpot1 _ _ w) rfl rfl rfl fun blk => ?_)
      | refine s_nil ?_)
            | (refine c_g ?_; first | refine c_seq ?_ | refine c_region ?_ | (refine c_gc ?_; first | refine c_cond1 rfl zTr ?_ | refine c_cond0 rfl zTr ?_ | refine z_condd1 rfl ?_ | refine z_condd0 rfl ?_ | refine z_conddn1 rfl ?_ | refine z_conddn0 rfl ?_ | refine c_condd rfl (fun hc => ?_) (fun hc => ?_) | refine c_conddn rfl (fun hc => ?_) (fun hc => ?_) | refine c_condn rfl (fun hc => ?_) (fun hc => ?_) | refine c_cond rfl (fun hc => ?_) (fun hc => ?_)) | refine c_block ?_ | refine c_skip ?_ | refine c_exit ?_ | refine c_ret ?_)
            | (refine e_g ?_; first | refine e_then ?_ | refine e_blkn ?_ | refine e_thenx ?_ | refine e_thenr ?_ | refine e_blkr ?_ | refine e_blkx ?_ | refine e_blky rfl ?_)
            | (refine e_round (j + 1, g', cap', cur') (by simp only; omega) ⟨by simp only; omega, by simp only; rw [htk]; exact hA'⟩ ?_ rfl))
          all_goals (exact sub_cons' rfl (by congr 1; omega) (by repeat' (first | exact sub_nil | refine sub_cons rfl ?_)))
        · have hjl : j = l.length := by omega
          subst hjl
          rw [List.take_of_length_le (by simp)] at hA8
          have hc7 := hA7.le
          have k1 := pkV_ok ho1 (l.length : Int) 0 0 (by omega)
          have fP := fun w hS => P6Pick_any l1 A1 cap1 (l.length : Int) w hS ho1 (by omega)
          rcases hq1 : pkV l1 (l.length : Int) 0 0 with ⟨rv, at1, sd1⟩
          simp only [hq1] at k1 fP
          obtain ⟨r, rfl⟩ : ∃ r : Nat, rv = (r : Int) := ⟨rv.toNat, by omega⟩
          have hrl : r < l.length := by omega
          have fW := fun w T hg => implW_ok (w := w) hpq hv ha (hA7.toSl (lenSp l) (by omega) (g := g7) (T := T) hg) hW hlp hl20
          have fS := fun w T hg => specW_ok (w := w) hpq hv ha (hA7.toSl (lenSp l) (by omega) (g := g7) (T := T) hg) hW hlp hl20
          have fV := fun w T hg => implVW_any (w := w) hpq ha (hA7.toSl (lenSp l) (by omega) (g := g7) (T := T) hg) hW.oks
          rw [wkV_ok hv ha hW hlp hl20] at fV
          have fR := fun w T hg => implW_ok (w := w) hpq hv ha (hA8.toSl (lenSp l.reverse) (by omega) (g := g8) (T := T) hg) hW.rev (by simpa using hlp) (by simpa using hl20)
          rw [wnd_rev] at fR
          have hl7 : ∀ w T, w.heap[g7]? = some (.cells cur7 T (0, 0)) → Sl w 2 (.slice (some ⟨g7, 0, none⟩) (r + 1) cap7) ((l.take (r + 1)).map Sp.cells) := fun w T hg => by
            rw [List.map_take]
            exact Sl.take (hA7.toSl (lenSp l) (by omega) (g := g7) (T := T) hg) (r + 1) (by simp; omega)
          have hd7 : ∀ w T, w.heap[g7]? = some (.cells cur7 T (0, 0)) → Sl w 2 (.slice (some ⟨g7, 0 + r * 2, none⟩) (l.length - r) (cap7 - r)) ((l.drop r).map Sp.cells) := fun w T hg => by
            rw [List.map_drop]
            exact Sl.drop (hA7.toSl (lenSp l) (by omega) (g := g7) (T := T) hg) (by omega)
          have fT := fun w T hg => implW_ok (w := w) hpq hv ha (hl7 w T hg) (hW.take (r + 1)) (by simp; omega) (by simp; omega)
          have fD := fun w T hg => implW_ok (w := w) hpq hv ha (hd7 w T hg) (hW.drop r) (by simp; omega) (by simp; omega)
          have fQ := fun w T hg => implR_ok (w := w) hpq hv ha (hA7.toSl (lenSp l) (by omega) (g := g7) (T := T) hg) hW hlp hl20
          have fQ2 := fun w T hg => specR_ok (w := w) hpq hv ha (hA7.toSl (lenSp l) (by omega) (g := g7) (T := T) hg) hW hlp hl20
          have hrg := ropeV_rng p c l
          have hFS := wnd_parts c l hrl
          have hWb := wnd_rng c l
          generalize wnd c (l.take (r + 1)) = F at *
          generalize wnd c (l.drop r) = D at *
          generalize wnd c l = W at *
          generalize ropeV p c l 9 = R at *
          repeat' (first
            | (refine s_g ?_; first
      | (refine s_gd rfl ?_; first | refine s_gd1 rfl rfl zTr ?_ | refine s_gd0 rfl rfl rfl zTr ?_ | refine s_gd00 rfl rfl zTr ?_ | refine s_gp1 rfl rfl rfl (fun hc => ?_) (fun hc => ?_) | refine s_gp0 rfl rfl rfl (fun hc => ?_) (fun hc => ?_) | refine s_gnp1 rfl rfl rfl (fun hc => ?_) (fun hc => ?_) | refine s_gnp0 rfl rfl rfl (fun hc => ?_) (fun hc => ?_) | refine s_gb1 rfl rfl rfl (fun hc => ?_) (fun hc => ?_) | refine s_gb0 rfl rfl rfl (fun hc => ?_) (fun hc => ?_) | refine s_gnb1 rfl rfl rfl (fun hc => ?_) (fun hc => ?_) | refine s_gnb0 rfl rfl rfl (fun hc => ?_) (fun hc => ?_))
      | (refine s_k 0 rfl ?_; refine s_val rfl rfl rfl (r_move rfl rfl) ?_)
      | (refine s_k 8 rfl ?_; first | (refine' s_val rfl rfl rfl (r_ldv rfl rfl ?qm ?qv) ?_; (case qm => (exact zMm)); (case qv => (exact zLe))) | (refine' s_val rfl rfl rfl (r_ldo rfl rfl ?qw (by simp) ?qv) ?_; (case qw => assumption); (case qv => (exact zLe))))
      | (refine s_k 1 rfl ?_; refine s_val rfl rfl rfl (r_assign rfl rfl) ?_)
      | (refine s_k 13 rfl ?_; first | refine s_val rfl rfl rfl (r_eql rfl rfl rfl) ?_ | refine s_val rfl rfl rfl (r_add rfl rfl rfl (wrap_in (by simp only [lo, hi]; omega))) ?_ | refine s_val rfl rfl rfl (r_sub rfl rfl rfl (wrap_in (by simp only [lo, hi]; omega))) ?_ | refine s_val rfl rfl rfl (r_leq rfl rfl rfl) ?_ | refine s_val rfl rfl rfl (r_geq rfl rfl rfl) ?_)
      | (refine s_k 35 rfl ?_; first | (refine s_call Try.func62 (by kernel_rfl) rfl rfl rfl rfl rfl rfl (fun w hL => fW _ _ (hL.at_ m1)) ?_) | (refine s_call Try.func62 (by kernel_rfl) rfl rfl rfl rfl rfl rfl (fun w hL => fR _ _ (hL.at_ m0)) ?_) | (refine s_call Try.func63 (by kernel_rfl) rfl rfl rfl rfl rfl rfl (fun w hL => fS _ _ (hL.at_ m1)) ?_))
      | (refine s_k 14 rfl ?_; first | refine s_val rfl rfl rfl (r_not rfl rfl) ?_ | refine s_val rfl rfl rfl (r_neg rfl rfl (wrap_in (by simp only [lo, hi]; omega))) ?_)
      | (refine s_k 2 rfl ?_; first | refine s_val rfl rfl rfl (r_pick1 rfl rfl zTr rfl) ?_ | refine s_val rfl rfl rfl (r_pick0 rfl rfl zTr rfl) ?_)
      | (refine s_k 25 rfl ?_; first | refine s_val rfl rfl rfl (r_ixN tb rfl rfl rfl rfl (by omega)) ?_ | refine s_val rfl rfl rfl (r_ixA tb rfl rfl rfl rfl (by omega) (by omega)) ?_ | refine s_val rfl rfl rfl (r_ixO tb rfl rfl rfl rfl (by omega)) ?_)
      | (refine s_k 9 rfl ?_; (first | refine s_st1 tb rfl rfl rfl rfl rfl rfl rfl rfl ?_ | refine s_stA tb rfl rfl rfl rfl (by first | rfl | assumption | (apply Pv.size; assumption)) rfl rfl ?_); (first | refine' st0 ?qs ?_ | refine' st1 ?qs ?_ | refine' st2 ?qs ?_ | refine' st3 ?qs ?_ | refine' st4 ?qs ?_ | refine' st5 ?qs ?_ | refine' st6 ?qs ?_ | refine' st7 ?qs ?_ | refine' st8 ?qs ?_ | refine' st9 ?qs ?_ | refine' st10 ?qs ?_ | refine' st11 ?qs ?_); (case qs => (first | exact zSet)))
      | (refine s_k 36 rfl ?_; refine s_val rfl rfl rfl (r_len tb rfl rfl rfl) ?_)
      | (refine s_k 34 rfl ?_; refine s_val rfl rfl rfl (r_extractL rfl rfl rfl) ?_)
      | refine s_nil ?_)
            | (refine c_g ?_; first | refine c_seq ?_ | refine c_region ?_ | (refine c_gc ?_; first | refine c_cond1 rfl zTr ?_ | refine c_cond0 rfl zTr ?_ | refine z_condd1 rfl ?_ | refine z_condd0 rfl ?_ | refine z_conddn1 rfl ?_ | refine z_conddn0 rfl ?_ | refine c_condd rfl (fun hc => ?_) (fun hc => ?_) | refine c_conddn rfl (fun hc => ?_) (fun hc => ?_) | refine c_condn rfl (fun hc => ?_) (fun hc => ?_) | refine c_cond rfl (fun hc => ?_) (fun hc => ?_)) | refine c_block ?_ | refine c_skip ?_ | refine c_exit ?_ | refine c_ret ?_)
            | (refine e_g ?_; first | refine e_then ?_ | refine e_blkn ?_ | refine e_thenx ?_ | refine e_thenr ?_ | refine e_blkr ?_ | refine e_blkx ?_ | refine e_blky rfl ?_))
          refine' c_drawZe (id := 16) [false, false, true, false, true, false, true, true, false, false, false, false, false] (fun _ => True) [(Sum.inl _ : CalmE.Plan (List (Nat × TypeId × Array Value))), (Sum.inl _ : CalmE.Plan (List (Nat × TypeId × Array Value))), (Sum.inr _ : CalmE.Plan (List (Nat × TypeId × Array Value))), (Sum.inl _ : CalmE.Plan (List (Nat × TypeId × Array Value))), (Sum.inr _ : CalmE.Plan (List (Nat × TypeId × Array Value))), (Sum.inl _ : CalmE.Plan (List (Nat × TypeId × Array Value))), (Sum.inr _ : CalmE.Plan (List (Nat × TypeId × Array Value))), (Sum.inr _ : CalmE.Plan (List (Nat × TypeId × Array Value))), (Sum.inl _ : CalmE.Plan (List (Nat × TypeId × Array Value))), (Sum.inl _ : CalmE.Plan (List (Nat × TypeId × Array Value))), (Sum.inl _ : CalmE.Plan (List (Nat × TypeId × Array Value))), (Sum.inl _ : CalmE.Plan (List (Nat × TypeId × Array Value))), (Sum.inl _ : CalmE.Plan (List (Nat × TypeId × Array Value)))] (by kernel_rfl) (by kernel_rfl) (by kernel_rfl) (by simp only [CalmE.Agree, and_self, true_and, and_true]) trivial ?zmain
          case zmain =>
            refine' z_val rfl rfl rfl ?hr ?hp ?_
            case hr => exact fun N hN => r_ldv rfl rfl (List.mem_append_right _ m3) (ldvW tb rfl hsz)
            case hp => exact rfl
            refine' z_val rfl rfl rfl ?hr ?hp ?_
            case hr => exact fun N hN => r_ldv rfl rfl (List.mem_append_right _ m2) (ldvW tb rfl rfl)
            case hp => exact rfl
            refine' z_bsl rfl rfl (fun w => slSpot0 w) rfl rfl rfl (fun _ => trivial) ?hp fun g0 => ?_
            case hp => exact rfl
            refine' z_val rfl rfl rfl ?hr ?hp ?_
            case hr => exact fun N hN => r_move rfl rfl
            case hp => exact rfl
            refine' z_app2 (xs := l.map Sp.cells) rfl uSpotS iSpot rfl (by omega) (Ap.nil 2) (fun w hK => hA7.slA (lenSp l) (hK.at_ (List.mem_append_right _ m1))) (flS_len l) rfl rfl (flS_one l) (by unfold maxLen; omega) (by omega) rfl rfl rfl (fun _ => trivial) ?hp fun g1 cap1' cur1 hA1 => ?_
            case hp => exact rfl
            refine' z_val rfl rfl rfl ?hr ?hp ?_
            case hr => exact fun N hN => r_move rfl rfl
            case hp => exact rfl
            refine' z_app2 (xs := l.reverse.map Sp.cells) rfl uSpotS iSpot rfl (by omega) hA1 (fun w hK => hA8.slA (lenSp l.reverse) (hK.at_ (List.mem_append_right _ m0))) (by have := flS_len l.reverse; rw [List.length_reverse] at this; exact this) rfl rfl (flS_one l.reverse) (by unfold maxLen; omega) (by omega) rfl rfl rfl (fun _ => trivial) ?hp fun g2 cap2 cur2 hA2 => ?_
            case hp => exact rfl
            have eC : [] ++ (l.map Sp.cells).flatten ++ (l.reverse.map Sp.cells).flatten = ((l ++ l.reverse).map Sp.cells).flatten := by simp
            rw [eC] at hA2
            refine' z_readE hA2 Try.func62 (by kernel_rfl) rfl rfl rfl rfl rfl rfl (fun w hK => (by have hB := implW_ok (w := w) hpq hv ha (hA2.toSl (lenSp (l ++ l.reverse)) (by omega) (hK.at_ m0)) (hW.round hlp) (by simp; omega) (by simp; omega); rw [wnd_round c hlp] at hB; exact hB)) (fun _ => trivial) ?hp fun g3 cap3 cur3 hA3 => ?_
            case hp => exact rfl
            refine' z_val rfl rfl rfl ?hr ?hp ?_
            case hr => exact fun N hN => r_move rfl rfl
            case hp => exact rfl
            refine' z_val rfl rfl rfl ?hr ?hp ?_
            case hr => exact fun N hN => r_extractL rfl rfl rfl
            case hp => exact rfl
            refine' z_val rfl rfl rfl ?hr ?hp ?_
            case hr => exact fun N hN => r_extractL rfl rfl rfl
            case hp => exact rfl
            refine' z_val rfl rfl rfl ?hr ?hp ?_
            case hr => exact fun N hN => r_assign rfl rfl
            case hp => exact rfl
            refine' z_val rfl rfl rfl ?hr ?hp ?_
            case hr => exact fun N hN => r_assign rfl rfl
            case hp => exact rfl
            refine z_nil ?_
            simp only [List.cons_append, List.nil_append]
            repeat' (first
              | (refine s_g ?_; first
      | (refine s_gd rfl ?_; first | refine s_gd1 rfl rfl zTr ?_ | refine s_gd0 rfl rfl rfl zTr ?_ | refine s_gd00 rfl rfl zTr ?_ | refine s_gp1 rfl rfl rfl (fun hc => ?_) (fun hc => ?_) | refine s_gp0 rfl rfl rfl (fun hc => ?_) (fun hc => ?_) | refine s_gnp1 rfl rfl rfl (fun hc => ?_) (fun hc => ?_) | refine s_gnp0 rfl rfl rfl (fun hc => ?_) (fun hc => ?_) | refine s_gb1 rfl rfl rfl (fun hc => ?_) (fun hc => ?_) | refine s_gb0 rfl rfl rfl (fun hc => ?_) (fun hc => ?_) | refine s_gnb1 rfl rfl rfl (fun hc => ?_) (fun hc => ?_) | refine s_gnb0 rfl rfl rfl (fun hc => ?_) (fun hc => ?_))
      | (refine s_k 0 rfl ?_; refine s_val rfl rfl rfl (r_move rfl rfl) ?_)
      | (refine s_k 8 rfl ?_; first | (refine' s_val rfl rfl rfl (r_ldv rfl rfl ?qm ?qv) ?_; (case qm => (exact zMm)); (case qv => (exact zLe))) | (refine' s_val rfl rfl rfl (r_ldo rfl rfl ?qw (by simp) ?qv) ?_; (case qw => assumption); (case qv => (exact zLe))))
      | (refine s_k 1 rfl ?_; refine s_val rfl rfl rfl (r_assign rfl rfl) ?_)
      | (refine s_k 13 rfl ?_; first | refine s_val rfl rfl rfl (r_add rfl rfl rfl (r := ((r + 1 : Nat) : Int)) (wrap_in (by simp only [Wk.lo, Wk.hi]; omega))) ?_ | refine s_val rfl rfl rfl (r_eql rfl rfl rfl) ?_ | refine s_val rfl rfl rfl (r_add rfl rfl rfl (wrap_in (by simp only [lo, hi]; omega))) ?_ | refine s_val rfl rfl rfl (r_sub rfl rfl rfl (wrap_in (by simp only [lo, hi]; omega))) ?_ | refine s_val rfl rfl rfl (r_leq rfl rfl rfl) ?_ | refine s_val rfl rfl rfl (r_geq rfl rfl rfl) ?_)
      | (refine s_k 35 rfl ?_; first | (refine s_call Try.func64 (by kernel_rfl) rfl rfl rfl rfl rfl rfl (fun w hL => fP _ (hS1.at_ hL)) ?_) | (refine s_call Try.func62 (by kernel_rfl) rfl rfl rfl rfl rfl rfl (fun w hL => fT _ _ (hL.at_ m2)) ?_) | (refine s_call Try.func62 (by kernel_rfl) rfl rfl rfl rfl rfl rfl (fun w hL => fD _ _ (hL.at_ m2)) ?_) | (refine s_call Try.func65 (by kernel_rfl) rfl rfl rfl rfl rfl rfl (fun w hL => fQ _ _ (hL.at_ m2)) ?_) | (refine s_call Try.func66 (by kernel_rfl) rfl rfl rfl rfl rfl rfl (fun w hL => fQ2 _ _ (hL.at_ m2)) ?_) | (refine s_call Try.func61 (by kernel_rfl) rfl rfl rfl rfl rfl rfl (fun w hL => fV _ _ (hL.at_ m2)) ?_))
      | (refine s_k 14 rfl ?_; first | refine s_val rfl rfl rfl (r_not rfl rfl) ?_ | refine s_val rfl rfl rfl (r_neg rfl rfl (wrap_in (by simp only [lo, hi]; omega))) ?_)
      | (refine s_k 2 rfl ?_; first | refine s_val rfl rfl rfl (r_pick1 rfl rfl zTr rfl) ?_ | refine s_val rfl rfl rfl (r_pick0 rfl rfl zTr rfl) ?_)
      | (refine s_k 25 rfl ?_; first | refine s_val rfl rfl rfl (r_ixN tb rfl rfl rfl rfl (by omega)) ?_ | refine s_val rfl rfl rfl (r_ixA tb rfl rfl rfl rfl (by omega) (by omega)) ?_ | refine s_val rfl rfl rfl (r_ixO tb rfl rfl rfl rfl (by omega)) ?_)
      | (refine s_k 9 rfl ?_; (first | refine s_st1 tb rfl rfl rfl rfl rfl rfl rfl rfl ?_ | refine s_stA tb rfl rfl rfl rfl (by first | rfl | assumption | (apply Pv.size; assumption)) rfl rfl ?_); (first | refine' st0 ?qs ?_ | refine' st1 ?qs ?_ | refine' st2 ?qs ?_ | refine' st3 ?qs ?_ | refine' st4 ?qs ?_ | refine' st5 ?qs ?_ | refine' st6 ?qs ?_ | refine' st7 ?qs ?_ | refine' st8 ?qs ?_ | refine' st9 ?qs ?_ | refine' st10 ?qs ?_ | refine' st11 ?qs ?_); (case qs => (first | exact zSet)))
      | (refine s_k 36 rfl ?_; refine s_val rfl rfl rfl (r_len tb rfl rfl rfl) ?_)
      | (refine s_k 22 rfl ?_; first | refine s_val rfl rfl rfl (r_slcH (h := r + 1) tb rfl rfl rfl rfl (by omega)) ?_ | refine s_val rfl rfl rfl (r_slcL (i := r) tb rfl rfl rfl rfl (by omega) (by omega)) ?_)
      | (refine s_k 34 rfl ?_; refine s_val rfl rfl rfl (r_extractL rfl rfl rfl) ?_)
      | refine s_nil ?_)
              | (refine c_g ?_; first | refine c_seq ?_ | refine c_region ?_ | (refine c_gc ?_; first | refine c_cond1 rfl zTr ?_ | refine c_cond0 rfl zTr ?_ | refine z_condd1 rfl ?_ | refine z_condd0 rfl ?_ | refine z_conddn1 rfl ?_ | refine z_conddn0 rfl ?_ | refine c_condd rfl (fun hc => ?_) (fun hc => ?_) | refine c_conddn rfl (fun hc => ?_) (fun hc => ?_) | refine c_condn rfl (fun hc => ?_) (fun hc => ?_) | refine c_cond rfl (fun hc => ?_) (fun hc => ?_)) | refine c_block ?_ | refine c_skip ?_ | refine c_exit ?_ | refine c_ret ?_)
              | (refine e_g ?_; first | refine e_then ?_ | refine e_blkn ?_ | refine e_thenx ?_ | refine e_thenr ?_ | refine e_blkr ?_ | refine e_blkx ?_ | refine e_blky rfl ?_)
              | (refine x_g ?_; first
      | (refine x_gd rfl ?_; first | refine x_gd1 rfl rfl zTr ?_ | (refine x_gd0 rfl rfl rfl zTr ?hp ?_; (case hp => exact rfl)))
      | (refine x_k 0 rfl ?_; (refine x_val rfl rfl rfl (r_move rfl rfl) ?hp ?_; (case hp => exact rfl)))
      | (refine x_k 8 rfl ?_; first | (refine' x_val rfl rfl rfl (r_ldv rfl rfl ?qm ?qv) ?hp ?_; (case qm => (exact zMm)); (case qv => (exact zLe)); (case hp => exact rfl)) | (refine' x_val rfl rfl rfl (r_ldo rfl rfl ?qw (by simp) ?qv) ?hp ?_; (case qw => assumption); (case qv => (exact zLe)); (case hp => exact rfl)))
      | (refine x_k 1 rfl ?_; (refine x_val rfl rfl rfl (r_assign rfl rfl) ?hp ?_; (case hp => exact rfl)))
      | (refine x_k 13 rfl ?_; first | (refine x_val rfl rfl rfl (r_add rfl rfl rfl (r := ((r + 1 : Nat) : Int)) (wrap_in (by simp only [Wk.lo, Wk.hi]; omega))) ?hp ?_; (case hp => exact rfl)) | (refine x_val rfl rfl rfl (r_eql rfl rfl rfl) ?hp ?_; (case hp => exact rfl)) | (refine x_val rfl rfl rfl (r_add rfl rfl rfl (wrap_in (by simp only [lo, hi]; omega))) ?hp ?_; (case hp => exact rfl)) | (refine x_val rfl rfl rfl (r_sub rfl rfl rfl (wrap_in (by simp only [lo, hi]; omega))) ?hp ?_; (case hp => exact rfl)) | (refine x_val rfl rfl rfl (r_leq rfl rfl rfl) ?hp ?_; (case hp => exact rfl)) | (refine x_val rfl rfl rfl (r_geq rfl rfl rfl) ?hp ?_; (case hp => exact rfl)))
      | (refine x_k 35 rfl ?_; first | (refine x_call Try.func64 (by kernel_rfl) rfl rfl rfl rfl rfl rfl (fun w hL => fP _ (hS1.at_ hL)) ?hp ?_; (case hp => exact rfl)) | (refine x_call Try.func62 (by kernel_rfl) rfl rfl rfl rfl rfl rfl (fun w hL => fT _ _ (hL.at_ m2)) ?hp ?_; (case hp => exact rfl)) | (refine x_call Try.func62 (by kernel_rfl) rfl rfl rfl rfl rfl rfl (fun w hL => fD _ _ (hL.at_ m2)) ?hp ?_; (case hp => exact rfl)) | (refine x_call Try.func65 (by kernel_rfl) rfl rfl rfl rfl rfl rfl (fun w hL => fQ _ _ (hL.at_ m2)) ?hp ?_; (case hp => exact rfl)) | (refine x_call Try.func66 (by kernel_rfl) rfl rfl rfl rfl rfl rfl (fun w hL => fQ2 _ _ (hL.at_ m2)) ?hp ?_; (case hp => exact rfl)) | (refine x_call Try.func61 (by kernel_rfl) rfl rfl rfl rfl rfl rfl (fun w hL => fV _ _ (hL.at_ m2)) ?hp ?_; (case hp => exact rfl)))
      | (refine x_k 14 rfl ?_; first | (refine x_val rfl rfl rfl (r_not rfl rfl) ?hp ?_; (case hp => exact rfl)) | (refine x_val rfl rfl rfl (r_neg rfl rfl (wrap_in (by simp only [lo, hi]; omega))) ?hp ?_; (case hp => exact rfl)))
      | (refine x_k 2 rfl ?_; first | (refine x_val rfl rfl rfl (r_pick1 rfl rfl zTr rfl) ?hp ?_; (case hp => exact rfl)) | (refine x_val rfl rfl rfl (r_pick0 rfl rfl zTr rfl) ?hp ?_; (case hp => exact rfl)))
      | (refine x_k 25 rfl ?_; first | (refine x_val rfl rfl rfl (r_ixN tb rfl rfl rfl rfl (by omega)) ?hp ?_; (case hp => exact rfl)) | (refine x_val rfl rfl rfl (r_ixA tb rfl rfl rfl rfl (by omega) (by omega)) ?hp ?_; (case hp => exact rfl)) | (refine x_val rfl rfl rfl (r_ixO tb rfl rfl rfl rfl (by omega)) ?hp ?_; (case hp => exact rfl)))
      | (refine x_k 9 rfl ?_; first | (refine' x_putA0 tb rfl rfl rfl rfl (by first | rfl | assumption | (apply Pv.size; assumption)) ?qs (by first | rfl | assumption | (apply Pv.size; assumption)) rfl rfl ?hp ?_; (case qs => (first | exact zSet)); (case hp => exact rfl)) | (refine' x_putA1 tb rfl rfl rfl rfl (by first | rfl | assumption | (apply Pv.size; assumption)) ?qs (by first | rfl | assumption | (apply Pv.size; assumption)) rfl rfl ?hp ?_; (case qs => (first | exact zSet)); (case hp => exact rfl)) | (refine' x_putA2 tb rfl rfl rfl rfl (by first | rfl | assumption | (apply Pv.size; assumption)) ?qs (by first | rfl | assumption | (apply Pv.size; assumption)) rfl rfl ?hp ?_; (case qs => (first | exact zSet)); (case hp => exact rfl)))
      | (refine x_k 36 rfl ?_; (refine x_val rfl rfl rfl (r_len tb rfl rfl rfl) ?hp ?_; (case hp => exact rfl)))
      | (refine x_k 22 rfl ?_; first | (refine x_val rfl rfl rfl (r_slcH (h := r + 1) tb rfl rfl rfl rfl (by omega)) ?hp ?_; (case hp => exact rfl)) | (refine x_val rfl rfl rfl (r_slcL (i := r) tb rfl rfl rfl rfl (by omega) (by omega)) ?hp ?_; (case hp => exact rfl)))
      | (refine x_k 34 rfl ?_; (refine x_val rfl rfl rfl (r_extractL rfl rfl rfl) ?hp ?_; (case hp => exact rfl)))
      | refine x_nil0 ?_
      | refine x_nil ?_)
              | (refine' c_drawX (id := 18) [(Sum.inl _ : Calm.Plan), (Sum.inl _ : Calm.Plan), (Sum.inl _ : Calm.Plan), (Sum.inl _ : Calm.Plan), (Sum.inl _ : Calm.Plan), (Sum.inl _ : Calm.Plan), (Sum.inl _ : Calm.Plan), (Sum.inl _ : Calm.Plan), (Sum.inl _ : Calm.Plan), (Sum.inl _ : Calm.Plan), (Sum.inl _ : Calm.Plan), (Sum.inl _ : Calm.Plan)] (by kernel_rfl) (by kernel_rfl) (by kernel_rfl) ?_)
              | (refine' c_drawX (id := 19) [(Sum.inl _ : Calm.Plan), (Sum.inl _ : Calm.Plan), (Sum.inl _ : Calm.Plan), (Sum.inl _ : Calm.Plan), (Sum.inl _ : Calm.Plan), (Sum.inl _ : Calm.Plan), (Sum.inl _ : Calm.Plan), (Sum.inl _ : Calm.Plan), (Sum.inl _ : Calm.Plan), (Sum.inl _ : Calm.Plan), (Sum.inl _ : Calm.Plan)] (by kernel_rfl) (by kernel_rfl) (by kernel_rfl) ?_)
              | (refine e_ret1 (by simp) rfl (re_tmp rfl) fun w hL => ⟨by rw [decide_eq_true hrg.1], hL.toBelow⟩))
namespace FnRopesRow
open Go.ChangeShapes Go.WideShapes Go.ChangeAt Go.RowKit
theorem own : ownKnob Try.prog.godebug = none := by kernel_rfl
theorem laidOut : laidOutB Try.prog = true := by kernel_rfl
set_option maxRecDepth 100000 in
set_option maxHeartbeats 1000000 in
theorem lifted (os : Os) (started : os.Started) (H : Type) (enc : TypeId × Value → H) :
    ReturnsInHanded {} Try.checked os 12 .any (Rows.fnRopesSpec.pre6 enc Try.prog Try.f12 Rows.fnRopesRow.domain false) (Rows.fnRopesSpec.post enc Try.prog Try.f12 false true false false) := by
  refine returnsInHanded_of_change (C := Try.checked) own started (by kernel_rfl) Try.func12
    (ChangeSpec.witness6 (enc := enc) (C := Try.checked) false ⟨#[], #[.slice none 0 0, .slice none 0 0], []⟩ 8 (by kernel_rfl) (by kernel_rfl) (by kernel_rfl) (by kernel_rfl)) ?_
  intro W base args ds gs before hval0 hW hcnd _
  have hval : ∀ (j : Nat) t v, Try.f12.params[j]? = some t → args[j]? = some v → Value.okWide Try.prog W .any base t v := hval0
  have hW' := hW
  obtain ⟨p, q, hA0, hV, rfl, hfz, hnd⟩ := hW
  have hA : DataW.TrodAll enc Try.prog W 0 (fun _ => true) true Try.f12.params.toList args.toList ds p := hA0
  rw [Try.params12] at hA hval
  obtain ⟨v0, vs0, d0, ds0, p0, q0, hargs, rfl, rfl, h0, r0⟩ := trodAll_cons hA
  obtain ⟨v1, vs1, d1, ds1, p1, q1, rfl, rfl, rfl, h1, r1⟩ := trodAll_cons r0
  obtain ⟨rfl, rfl, rfl⟩ := trodAll_nil r1
  obtain rfl : args = #[v0, v1] := by cases args; simp_all
  obtain ⟨rfl, rfl⟩ := trodVars_none hV
  have k0 := h0
  have lt0 : ∀ x ∈ p0, x.block < W.heap.size := by obtain ⟨m, hm⟩ := k0; exact DataW.trod_lt m _ _ _ hm
  have k1 := h1
  have lt1 : ∀ x ∈ p1, x.block < W.heap.size := by obtain ⟨m, hm⟩ := k1; exact DataW.trod_lt m _ _ _ hm
  obtain ⟨xs0, hl0, hf0⟩ := open_flat_slice (n := 5) (ks := byK) Try.underlying84 (by kernel_rfl) (by kernel_rfl) (by decide) (hval 0 _ v0 rfl rfl) h0
  obtain ⟨l0, rfl, ho0⟩ := list_of_cells (f := fun b => [Value.int .u8 b]) (p := fun b => 0 ≤ b ∧ b ≤ 255) xs0 (fun c hc => by
    obtain ⟨hcl, _⟩ := sl_elem hl0 c hc
    exact by_of_flat hcl (hf0 c hc))
  obtain ⟨xs1, hl1, hf1⟩ := open_flat_slice (n := 5) (ks := byK) Try.underlying84 (by kernel_rfl) (by kernel_rfl) (by decide) (hval 1 _ v1 rfl rfl) h1
  obtain ⟨l1, rfl, ho1⟩ := list_of_cells (f := fun b => [Value.int .u8 b]) (p := fun b => 0 ≤ b ∧ b ≤ 255) xs1 (fun c hc => by
    obtain ⟨hcl, _⟩ := sl_elem hl1 c hc
    exact by_of_flat hcl (hf1 c hc))
  clear hA0 hval0
  refine (FnRopes_walk v0 l0 v1 l1 W hl0 ho0 hl1 ho1).mono fun e W' ⟨he, bel⟩ => ?_
  subst he
  exact ⟨_, rfl, _, _, _, [], _, [], hW', trodAll_mk1 (shut_bool Try.underlying4 _), (trodAll_cons_mk (Below.trod laidOut (by kernel_rfl) (of_decide_eq_true (by kernel_rfl)) k0 bel lt0) (trodAll_cons_mk (Below.trod laidOut (by kernel_rfl) (of_decide_eq_true (by kernel_rfl)) k1 bel lt1) trodAll_mk0)), rfl, bel.frame _, fun h => by cases h⟩
theorem closed : joinedFacts Try.prog 12 Try.f12 Rows.fnRopesSpec Rows.fnRopesRow = true := by
  unfold joinedFacts
  rw [prog_mayEnter, prog_lifts, prog_make]
  show (_ : Bool) = true
  kernel_rfl
theorem over : Rows.fnRopesRow.holds Try.pinned (OpenSpec.ofChange Rows.fnRopesSpec) :=
  OpenClaim.holds_of_wide 12 Try.f12 rfl rfl rfl rfl rfl rfl rfl ⟨rfl, rfl, rfl, rfl, rfl⟩ rfl rfl rfl rfl rfl (by kernel_rfl) Try.func12 closed
    (of_decide_eq_true (by kernel_rfl)) (by unfold Func.isWrapper; first | (rw [if_pos (by decide +kernel)]; kernel_rfl) | (rw [if_neg (by decide +kernel)]; exact ⟨rfl, rfl⟩))
    (fun os started H enc _ => lifted os started H enc)
end FnRopesRow
theorem fnRopes_holds : Rows.FnRopesSaid := FnRopesRow.over
#print axioms fnRopes_holds
end Go.Proofs.Ytpifngdmlmfnhaa
