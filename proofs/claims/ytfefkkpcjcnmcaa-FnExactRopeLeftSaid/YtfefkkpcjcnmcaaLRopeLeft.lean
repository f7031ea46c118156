/- RopeLeft: the program's and the reference's return the same, for all arguments: no condition. -/
import Derived.Test.YtfefkkpcjcnmcaaLk
import Derived.Test.YtfefkkpcjcnmcaaWnd
import Derived.Test.YtfefkkpcjcnmcaaTos
namespace Go.Proofs.Ytfefkkpcjcnmcaa
set_option linter.unusedVariables false
set_option linter.unusedSimpArgs false
open Go.RowKit Mem Wk
attribute [local irreducible] Calls Wk.S Wk.C Wk.E Wk.X Wk.T Wk.Y Calm.wpLex CalmB.wpLex

def ropeV (p : Nat → Int) (o : Sp) (l : List Sp) (len : Int) : Int := if walkC p o l len = 0 then max (len - 4 * max (wsum (wdB o) l (l.length - 1)) (0 - wsum (wdB o) l (l.length - 1))) 0 else 0
set_option maxRecDepth 100000 in
theorem l00Max_any (a b : Int) (w : World) : Calls Try.prog 129 #[.int .i64 a, .int .i64 b] w fun e w' => e = .returned (.int .i64 (max a b)) ∧ Below w.heap.size w w' := by
  by_cases h : b < a
  · refine enter2 Try.func129 rfl rfl rfl (Own.start w) ?_
    repeat' (first
      | (refine s_g ?_; first
      | (refine s_k 0 rfl ?_; refine s_val rfl rfl rfl (r_move rfl rfl) ?_)
      | (refine s_k 1 rfl ?_; refine s_val rfl rfl rfl (r_assign rfl rfl) ?_)
      | (refine s_k 13 rfl ?_; refine s_val rfl rfl rfl (r_gtr rfl rfl rfl) ?_)
      | refine s_nil ?_)
      | (refine c_g ?_; first | refine c_seq ?_ | refine c_region ?_ | (refine c_gc ?_; first | refine c_cond1 rfl (by first | rfl | assumption | (apply dt1; assumption) | (apply dt0; assumption) | (apply nt1; assumption) | (apply nt0; assumption) | (apply ndt1; assumption) | (apply ndt0; assumption) | (apply dt1; omega) | (apply dt0; omega)) ?_ | refine c_cond0 rfl (by first | rfl | assumption | (apply dt1; assumption) | (apply dt0; assumption) | (apply nt1; assumption) | (apply nt0; assumption) | (apply ndt1; assumption) | (apply ndt0; assumption) | (apply dt1; omega) | (apply dt0; omega)) ?_ | refine c_condd1 rfl (by omega) ?_ | refine c_condd0 rfl (by omega) ?_ | refine c_conddn1 rfl (by omega) ?_ | refine c_conddn0 rfl (by omega) ?_ | refine c_condd rfl (fun hc => ?_) (fun hc => ?_) | refine c_conddn rfl (fun hc => ?_) (fun hc => ?_) | refine c_condn rfl (fun hc => ?_) (fun hc => ?_) | refine c_cond rfl (fun hc => ?_) (fun hc => ?_)) | refine c_block ?_ | refine c_skip ?_ | refine c_exit ?_ | refine c_ret ?_)
      | (refine e_g ?_; first | refine e_then ?_ | refine e_blkn ?_ | refine e_thenx ?_ | refine e_thenr ?_ | refine e_blkr ?_ | refine e_blkx ?_ | refine e_blky rfl ?_)
      | (refine e_ret1 (by simp) rfl (re_tmp rfl) fun w hL => ⟨by congr 2; omega, hL.toBelow⟩))
  · refine enter2 Try.func129 rfl rfl rfl (Own.start w) ?_
    repeat' (first
      | (refine s_g ?_; first
      | (refine s_k 0 rfl ?_; refine s_val rfl rfl rfl (r_move rfl rfl) ?_)
      | (refine s_k 1 rfl ?_; refine s_val rfl rfl rfl (r_assign rfl rfl) ?_)
      | (refine s_k 13 rfl ?_; refine s_val rfl rfl rfl (r_gtr rfl rfl rfl) ?_)
      | refine s_nil ?_)
      | (refine c_g ?_; first | refine c_seq ?_ | refine c_region ?_ | (refine c_gc ?_; first | refine c_cond1 rfl (by first | rfl | assumption | (apply dt1; assumption) | (apply dt0; assumption) | (apply nt1; assumption) | (apply nt0; assumption) | (apply ndt1; assumption) | (apply ndt0; assumption) | (apply dt1; omega) | (apply dt0; omega)) ?_ | refine c_cond0 rfl (by first | rfl | assumption | (apply dt1; assumption) | (apply dt0; assumption) | (apply nt1; assumption) | (apply nt0; assumption) | (apply ndt1; assumption) | (apply ndt0; assumption) | (apply dt1; omega) | (apply dt0; omega)) ?_ | refine c_condd1 rfl (by omega) ?_ | refine c_condd0 rfl (by omega) ?_ | refine c_conddn1 rfl (by omega) ?_ | refine c_conddn0 rfl (by omega) ?_ | refine c_condd rfl (fun hc => ?_) (fun hc => ?_) | refine c_conddn rfl (fun hc => ?_) (fun hc => ?_) | refine c_condn rfl (fun hc => ?_) (fun hc => ?_) | refine c_cond rfl (fun hc => ?_) (fun hc => ?_)) | refine c_block ?_ | refine c_skip ?_ | refine c_exit ?_ | refine c_ret ?_)
      | (refine e_g ?_; first | refine e_then ?_ | refine e_blkn ?_ | refine e_thenx ?_ | refine e_thenr ?_ | refine e_blkr ?_ | refine e_blkx ?_ | refine e_blky rfl ?_)
      | (refine e_ret1 (by simp) rfl (re_tmp rfl) fun w hL => ⟨by congr 2; omega, hL.toBelow⟩))
theorem in1000 {n : Int} (h : inB n 0 1000 = true) : 0 ≤ n ∧ n ≤ 1000 := by unfold inB at h; simpa using h
set_option maxRecDepth 100000 in
theorem implRopeLeft_sl {p : Nat → Int} {cs : Array Value} {o : Sp} {u : Value} {l : List Sp} {len : Int} {w : World} (hp : Pv p cs) (hs : o.ok) (hU : Sl w 2 u (l.map Sp.cells)) (hok : ∀ h ∈ l, h.ok) : Calls Try.prog 40 #[.agg cs, .agg #[.int .i8 o.x, .int .i8 o.y], u, .int .i64 len] w fun e w' => e = .returned (.tuple #[.int .i64 (ropeV p o l len), .int .i64 (walkC p o l len)]) ∧ Below w.heap.size w w' := by
  have hn := sl_fit hU
  have hsz := hp.size
  obtain ⟨A, cap, rfl, h1, h2, hS⟩ := hU.open
  rw [List.length_map] at hn h1 ⊢
  by_cases h0 : walkC p o l len = 0
  · have hw := walkC_0 h0
    have hlen := walkB_len hw.2.1
    have hl := in1000 hw.2.2
    have hle := wsum_le o l (l.length - 1)
    unfold ropeV; rw [if_pos h0]
    have hcall := fun w' hL => implWinds_any o l A cap w' hw.1 hL (by omega) hok
    generalize wsum (wdB o) l (l.length - 1) = n at *
    refine enter4 Try.func40 rfl rfl rfl (Own.start w) ?_
    repeat' (first
      | (refine s_g ?_; first
      | (refine s_k 0 rfl ?_; refine s_val rfl rfl rfl (r_move rfl rfl) ?_)
      | (refine s_k 8 rfl ?_; first | (refine' s_val rfl rfl rfl (r_ldv rfl rfl ?qm ?qv) ?_; (case qm => (first | exact m0 | exact m1 | exact m2 | exact m3 | exact m4 | exact m5 | exact m6 | exact m7 | exact m8 | exact m9 | exact m10 | exact m11)); (case qv => (first | exact ldvL tb rfl rfl | exact ldv1 tb rfl (by assumption) | exact ldvW tb rfl rfl | exact ldvW tb rfl (by assumption) | exact ldvW tb rfl (Pv.size (by assumption)) | exact ldvN tb rfl ext2_0 rfl | exact ldvN tb rfl ext2_2 rfl))) | (refine' s_val rfl rfl rfl (r_ldo rfl rfl ?qw (by simp) ?qv) ?_; (case qw => assumption); (case qv => (first | exact ldvL tb rfl rfl | exact ldv1 tb rfl (by assumption) | exact ldvW tb rfl rfl | exact ldvW tb rfl (by assumption) | exact ldvW tb rfl (Pv.size (by assumption)) | exact ldvN tb rfl ext2_0 rfl | exact ldvN tb rfl ext2_2 rfl))))
      | (refine s_k 1 rfl ?_; refine s_val rfl rfl rfl (r_assign rfl rfl) ?_)
      | (refine s_k 13 rfl ?_; first | refine s_val rfl rfl rfl (r_neq rfl rfl rfl) ?_ | refine s_val rfl rfl rfl (r_sub rfl rfl rfl (wrap_in (by simp only [lo, hi]; omega))) ?_ | refine s_val rfl rfl rfl (r_mul rfl rfl rfl (wrap_in (by simp only [lo, hi]; omega))) ?_)
      | (refine s_k 35 rfl ?_; first | (refine s_call Try.func110 (by kernel_rfl) rfl rfl rfl rfl rfl rfl (fun w hL => walkCode_any p cs o l A cap len _ hp hs (hS.at_ hL) hn hok) ?_) | (refine s_call Try.func111 (by kernel_rfl) rfl rfl rfl rfl rfl rfl (fun w hL => hcall _ (hS.at_ hL)) ?_))
      | (refine s_k 14 rfl ?_; refine s_val rfl rfl rfl (r_neg rfl rfl (wrap_in (by simp only [lo, hi]; omega))) ?_)
      | (refine s_k 4 rfl ?_; first | refine s_boxA rfl rfl rfl rfl rfl fun blk => ?_ | refine s_box1 rfl rfl rfl rfl rfl rfl fun blk => ?_)
      | (refine s_k 36 rfl ?_; refine s_val rfl rfl rfl (r_max rfl rfl rfl) ?_)
      | refine s_nil ?_)
      | (refine c_g ?_; first | refine c_seq ?_ | refine c_region ?_ | (refine c_gc ?_; first | refine c_cond1 rfl (by first | rfl | assumption | (apply dt1; assumption) | (apply dt0; assumption) | (apply nt1; assumption) | (apply nt0; assumption) | (apply ndt1; assumption) | (apply ndt0; assumption) | (apply dt1; omega) | (apply dt0; omega)) ?_ | refine c_cond0 rfl (by first | rfl | assumption | (apply dt1; assumption) | (apply dt0; assumption) | (apply nt1; assumption) | (apply nt0; assumption) | (apply ndt1; assumption) | (apply ndt0; assumption) | (apply dt1; omega) | (apply dt0; omega)) ?_ | refine c_condd1 rfl (by omega) ?_ | refine c_condd0 rfl (by omega) ?_ | refine c_conddn1 rfl (by omega) ?_ | refine c_conddn0 rfl (by omega) ?_ | refine c_condd rfl (fun hc => ?_) (fun hc => ?_) | refine c_conddn rfl (fun hc => ?_) (fun hc => ?_) | refine c_condn rfl (fun hc => ?_) (fun hc => ?_) | refine c_cond rfl (fun hc => ?_) (fun hc => ?_)) | refine c_block ?_ | refine c_skip ?_ | refine c_exit ?_ | refine c_ret ?_)
      | (refine e_g ?_; first | refine e_then ?_ | refine e_blkn ?_ | refine e_thenx ?_ | refine e_thenr ?_ | refine e_blkr ?_ | refine e_blkx ?_ | refine e_blky rfl ?_)
      | (refine e_ret2 (by simp) rfl (re_tmp rfl) (re_tmp rfl) fun w hL => ⟨by first | rfl | (rw [h0]; done), hL.toBelow⟩))
  · unfold ropeV; rw [if_neg h0]
    refine enter4 Try.func40 rfl rfl rfl (Own.start w) ?_
    repeat' (first
      | (refine s_g ?_; first
      | (refine s_k 0 rfl ?_; refine s_val rfl rfl rfl (r_move rfl rfl) ?_)
      | (refine s_k 8 rfl ?_; first | (refine' s_val rfl rfl rfl (r_ldv rfl rfl ?qm ?qv) ?_; (case qm => (first | exact m0 | exact m1 | exact m2 | exact m3 | exact m4 | exact m5 | exact m6 | exact m7 | exact m8 | exact m9 | exact m10 | exact m11)); (case qv => (first | exact ldvL tb rfl rfl | exact ldv1 tb rfl (by assumption) | exact ldvW tb rfl rfl | exact ldvW tb rfl (by assumption) | exact ldvW tb rfl (Pv.size (by assumption)) | exact ldvN tb rfl ext2_0 rfl | exact ldvN tb rfl ext2_2 rfl))) | (refine' s_val rfl rfl rfl (r_ldo rfl rfl ?qw (by simp) ?qv) ?_; (case qw => assumption); (case qv => (first | exact ldvL tb rfl rfl | exact ldv1 tb rfl (by assumption) | exact ldvW tb rfl rfl | exact ldvW tb rfl (by assumption) | exact ldvW tb rfl (Pv.size (by assumption)) | exact ldvN tb rfl ext2_0 rfl | exact ldvN tb rfl ext2_2 rfl))))
      | (refine s_k 1 rfl ?_; refine s_val rfl rfl rfl (r_assign rfl rfl) ?_)
      | (refine s_k 13 rfl ?_; first | refine s_val rfl rfl rfl (r_neq rfl rfl rfl) ?_ | refine s_val rfl rfl rfl (r_sub rfl rfl rfl (wrap_in (by simp only [lo, hi]; omega))) ?_ | refine s_val rfl rfl rfl (r_mul rfl rfl rfl (wrap_in (by simp only [lo, hi]; omega))) ?_)
      | (refine s_k 35 rfl ?_; (refine s_call Try.func110 (by kernel_rfl) rfl rfl rfl rfl rfl rfl (fun w hL => walkCode_any p cs o l A cap len _ hp hs (hS.at_ hL) hn hok) ?_))
      | (refine s_k 14 rfl ?_; refine s_val rfl rfl rfl (r_neg rfl rfl (wrap_in (by simp only [lo, hi]; omega))) ?_)
      | (refine s_k 4 rfl ?_; first | refine s_boxA rfl rfl rfl rfl rfl fun blk => ?_ | refine s_box1 rfl rfl rfl rfl rfl rfl fun blk => ?_)
      | (refine s_k 36 rfl ?_; refine s_val rfl rfl rfl (r_max rfl rfl rfl) ?_)
      | refine s_nil ?_)
      | (refine c_g ?_; first | refine c_seq ?_ | refine c_region ?_ | (refine c_gc ?_; first | refine c_cond1 rfl (by first | rfl | assumption | (apply dt1; assumption) | (apply dt0; assumption) | (apply nt1; assumption) | (apply nt0; assumption) | (apply ndt1; assumption) | (apply ndt0; assumption) | (apply dt1; omega) | (apply dt0; omega)) ?_ | refine c_cond0 rfl (by first | rfl | assumption | (apply dt1; assumption) | (apply dt0; assumption) | (apply nt1; assumption) | (apply nt0; assumption) | (apply ndt1; assumption) | (apply ndt0; assumption) | (apply dt1; omega) | (apply dt0; omega)) ?_ | refine c_condd1 rfl (by omega) ?_ | refine c_condd0 rfl (by omega) ?_ | refine c_conddn1 rfl (by omega) ?_ | refine c_conddn0 rfl (by omega) ?_ | refine c_condd rfl (fun hc => ?_) (fun hc => ?_) | refine c_conddn rfl (fun hc => ?_) (fun hc => ?_) | refine c_condn rfl (fun hc => ?_) (fun hc => ?_) | refine c_cond rfl (fun hc => ?_) (fun hc => ?_)) | refine c_block ?_ | refine c_skip ?_ | refine c_exit ?_ | refine c_ret ?_)
      | (refine e_g ?_; first | refine e_then ?_ | refine e_blkn ?_ | refine e_thenx ?_ | refine e_thenr ?_ | refine e_blkr ?_ | refine e_blkx ?_ | refine e_blky rfl ?_)
      | (refine e_ret2 (by simp) rfl (re_tmp rfl) (re_tmp rfl) fun w hL => ⟨rfl, hL.toBelow⟩))
set_option maxRecDepth 100000 in
theorem specRopeLeft_sl {p : Nat → Int} {cs : Array Value} {o : Sp} {u : Value} {l : List Sp} {len : Int} {w : World} (hp : Pv p cs) (hs : o.ok) (hU : Sl w 2 u (l.map Sp.cells)) (hok : ∀ h ∈ l, h.ok) : Calls Try.prog 39 #[.agg cs, .agg #[.int .i8 o.x, .int .i8 o.y], u, .int .i64 len] w fun e w' => e = .returned (.tuple #[.int .i64 (ropeV p o l len), .int .i64 (walkC p o l len)]) ∧ Below w.heap.size w w' := by
  have hn := sl_fit hU
  have hsz := hp.size
  obtain ⟨A, cap, rfl, h1, h2, hS⟩ := hU.open
  rw [List.length_map] at hn h1 ⊢
  by_cases h0 : walkC p o l len = 0
  · have hw := walkC_0 h0
    have hlen := walkB_len hw.2.1
    have hl := in1000 hw.2.2
    have hle := wsum_le o l (l.length - 1)
    unfold ropeV; rw [if_pos h0]
    have hcall := fun w' hL => specWinds_any o l A cap w' hw.1 hL (by omega) hok (fun k a b ha hb => wk_near hw.2.1 ha hb)
    generalize wsum (wdB o) l (l.length - 1) = n at *
    rw [Int.max_comm]
    refine enter4 Try.func39 rfl rfl rfl (Own.start w) ?_
    repeat' (first
      | (refine s_g ?_; first
      | (refine s_k 0 rfl ?_; refine s_val rfl rfl rfl (r_move rfl rfl) ?_)
      | (refine s_k 8 rfl ?_; first | (refine' s_val rfl rfl rfl (r_ldv rfl rfl ?qm ?qv) ?_; (case qm => (first | exact m0 | exact m1 | exact m2 | exact m3 | exact m4 | exact m5 | exact m6 | exact m7 | exact m8 | exact m9 | exact m10 | exact m11)); (case qv => (first | exact ldvL tb rfl rfl | exact ldv1 tb rfl (by assumption) | exact ldvW tb rfl rfl | exact ldvW tb rfl (by assumption) | exact ldvW tb rfl (Pv.size (by assumption)) | exact ldvN tb rfl ext2_0 rfl | exact ldvN tb rfl ext2_2 rfl))) | (refine' s_val rfl rfl rfl (r_ldo rfl rfl ?qw (by simp) ?qv) ?_; (case qw => assumption); (case qv => (first | exact ldvL tb rfl rfl | exact ldv1 tb rfl (by assumption) | exact ldvW tb rfl rfl | exact ldvW tb rfl (by assumption) | exact ldvW tb rfl (Pv.size (by assumption)) | exact ldvN tb rfl ext2_0 rfl | exact ldvN tb rfl ext2_2 rfl))))
      | (refine s_k 1 rfl ?_; refine s_val rfl rfl rfl (r_assign rfl rfl) ?_)
      | (refine s_k 13 rfl ?_; first | refine s_val rfl rfl rfl (r_neq rfl rfl rfl) ?_ | refine s_val rfl rfl rfl (r_sub rfl rfl rfl (wrap_in (by simp only [lo, hi]; omega))) ?_ | refine s_val rfl rfl rfl (r_mul rfl rfl rfl (wrap_in (by simp only [lo, hi]; omega))) ?_)
      | (refine s_k 35 rfl ?_; first | (refine s_call Try.func106 (by kernel_rfl) rfl rfl rfl rfl rfl rfl (fun w hL => l05Roped_any p cs _ _ o l A cap len _ hp (hL.at_ m1) hs (hS.at_ hL) hn hok) ?_) | (refine s_call Try.func107 (by kernel_rfl) rfl rfl rfl rfl rfl rfl (fun w hL => hcall _ (hS.at_ hL)) ?_) | (refine s_call Try.func129 (by kernel_rfl) rfl rfl rfl rfl rfl rfl (fun w hL => l00Max_any _ _ _) ?_))
      | (refine s_k 14 rfl ?_; refine s_val rfl rfl rfl (r_neg rfl rfl (wrap_in (by simp only [lo, hi]; omega))) ?_)
      | (refine s_k 4 rfl ?_; first | refine s_boxA rfl rfl rfl rfl rfl fun blk => ?_ | refine s_box1 rfl rfl rfl rfl rfl rfl fun blk => ?_)
      | refine s_nil ?_)
      | (refine c_g ?_; first | refine c_seq ?_ | refine c_region ?_ | (refine c_gc ?_; first | refine c_cond1 rfl (by first | rfl | assumption | (apply dt1; assumption) | (apply dt0; assumption) | (apply nt1; assumption) | (apply nt0; assumption) | (apply ndt1; assumption) | (apply ndt0; assumption) | (apply dt1; omega) | (apply dt0; omega)) ?_ | refine c_cond0 rfl (by first | rfl | assumption | (apply dt1; assumption) | (apply dt0; assumption) | (apply nt1; assumption) | (apply nt0; assumption) | (apply ndt1; assumption) | (apply ndt0; assumption) | (apply dt1; omega) | (apply dt0; omega)) ?_ | refine c_condd1 rfl (by omega) ?_ | refine c_condd0 rfl (by omega) ?_ | refine c_conddn1 rfl (by omega) ?_ | refine c_conddn0 rfl (by omega) ?_ | refine c_condd rfl (fun hc => ?_) (fun hc => ?_) | refine c_conddn rfl (fun hc => ?_) (fun hc => ?_) | refine c_condn rfl (fun hc => ?_) (fun hc => ?_) | refine c_cond rfl (fun hc => ?_) (fun hc => ?_)) | refine c_block ?_ | refine c_skip ?_ | refine c_exit ?_ | refine c_ret ?_)
      | (refine e_g ?_; first | refine e_then ?_ | refine e_blkn ?_ | refine e_thenx ?_ | refine e_thenr ?_ | refine e_blkr ?_ | refine e_blkx ?_ | refine e_blky rfl ?_)
      | (refine e_ret2 (by simp) rfl (re_tmp rfl) (re_tmp rfl) fun w hL => ⟨by first | rfl | (rw [h0]; done), hL.toBelow⟩))
  · unfold ropeV; rw [if_neg h0]
    refine enter4 Try.func39 rfl rfl rfl (Own.start w) ?_
    repeat' (first
      | (refine s_g ?_; first
      | (refine s_k 0 rfl ?_; refine s_val rfl rfl rfl (r_move rfl rfl) ?_)
      | (refine s_k 8 rfl ?_; first | (refine' s_val rfl rfl rfl (r_ldv rfl rfl ?qm ?qv) ?_; (case qm => (first | exact m0 | exact m1 | exact m2 | exact m3 | exact m4 | exact m5 | exact m6 | exact m7 | exact m8 | exact m9 | exact m10 | exact m11)); (case qv => (first | exact ldvL tb rfl rfl | exact ldv1 tb rfl (by assumption) | exact ldvW tb rfl rfl | exact ldvW tb rfl (by assumption) | exact ldvW tb rfl (Pv.size (by assumption)) | exact ldvN tb rfl ext2_0 rfl | exact ldvN tb rfl ext2_2 rfl))) | (refine' s_val rfl rfl rfl (r_ldo rfl rfl ?qw (by simp) ?qv) ?_; (case qw => assumption); (case qv => (first | exact ldvL tb rfl rfl | exact ldv1 tb rfl (by assumption) | exact ldvW tb rfl rfl | exact ldvW tb rfl (by assumption) | exact ldvW tb rfl (Pv.size (by assumption)) | exact ldvN tb rfl ext2_0 rfl | exact ldvN tb rfl ext2_2 rfl))))
      | (refine s_k 1 rfl ?_; refine s_val rfl rfl rfl (r_assign rfl rfl) ?_)
      | (refine s_k 13 rfl ?_; first | refine s_val rfl rfl rfl (r_neq rfl rfl rfl) ?_ | refine s_val rfl rfl rfl (r_sub rfl rfl rfl (wrap_in (by simp only [lo, hi]; omega))) ?_ | refine s_val rfl rfl rfl (r_mul rfl rfl rfl (wrap_in (by simp only [lo, hi]; omega))) ?_)
      | (refine s_k 35 rfl ?_; (refine s_call Try.func106 (by kernel_rfl) rfl rfl rfl rfl rfl rfl (fun w hL => l05Roped_any p cs _ _ o l A cap len _ hp (hL.at_ m1) hs (hS.at_ hL) hn hok) ?_))
      | (refine s_k 14 rfl ?_; refine s_val rfl rfl rfl (r_neg rfl rfl (wrap_in (by simp only [lo, hi]; omega))) ?_)
      | (refine s_k 4 rfl ?_; first | refine s_boxA rfl rfl rfl rfl rfl fun blk => ?_ | refine s_box1 rfl rfl rfl rfl rfl rfl fun blk => ?_)
      | refine s_nil ?_)
      | (refine c_g ?_; first | refine c_seq ?_ | refine c_region ?_ | (refine c_gc ?_; first | refine c_cond1 rfl (by first | rfl | assumption | (apply dt1; assumption) | (apply dt0; assumption) | (apply nt1; assumption) | (apply nt0; assumption) | (apply ndt1; assumption) | (apply ndt0; assumption) | (apply dt1; omega) | (apply dt0; omega)) ?_ | refine c_cond0 rfl (by first | rfl | assumption | (apply dt1; assumption) | (apply dt0; assumption) | (apply nt1; assumption) | (apply nt0; assumption) | (apply ndt1; assumption) | (apply ndt0; assumption) | (apply dt1; omega) | (apply dt0; omega)) ?_ | refine c_condd1 rfl (by omega) ?_ | refine c_condd0 rfl (by omega) ?_ | refine c_conddn1 rfl (by omega) ?_ | refine c_conddn0 rfl (by omega) ?_ | refine c_condd rfl (fun hc => ?_) (fun hc => ?_) | refine c_conddn rfl (fun hc => ?_) (fun hc => ?_) | refine c_condn rfl (fun hc => ?_) (fun hc => ?_) | refine c_cond rfl (fun hc => ?_) (fun hc => ?_)) | refine c_block ?_ | refine c_skip ?_ | refine c_exit ?_ | refine c_ret ?_)
      | (refine e_g ?_; first | refine e_then ?_ | refine e_blkn ?_ | refine e_thenx ?_ | refine e_thenr ?_ | refine e_blkr ?_ | refine e_blkx ?_ | refine e_blky rfl ?_)
      | (refine e_ret2 (by simp) rfl (re_tmp rfl) (re_tmp rfl) fun w hL => ⟨rfl, hL.toBelow⟩))
set_option maxRecDepth 100000 in
set_option maxHeartbeats 400000 in
theorem FnExactRopeLeft_walk (p0 : Nat → Int) (c0 : Array Value) (s1 : Sp) (v2 : Value) (l2 : List Sp) (a3 : Int) (w : World) (hp0 : Pv p0 c0) (hs1 : s1.ok) (hl2 : Sl w 2 v2 (l2.map Sp.cells)) (ho2 : ∀ s ∈ l2, s.ok) (ha3 : -9223372036854775808 ≤ a3) (hb3 : a3 ≤ 9223372036854775807) :
    Calls Try.prog 6 #[.agg c0, .agg #[.int .i8 s1.x, .int .i8 s1.y], v2, .int .i64 a3] w fun e w' => e = .returned (.bool true) ∧ Below w.heap.size w w' := by
  have hsz := hp0.size
  by_cases hn2 : l2.length ≤ 1048576
  case neg =>
    refine enter4 Try.func6 rfl rfl rfl (Own.start w) ?_
    repeat' (first
      | (refine s_g ?_; first
      | (refine s_gd rfl ?_; first | refine s_gd1 rfl rfl (by first | rfl | assumption | (apply dt1; assumption) | (apply dt0; assumption) | (apply nt1; assumption) | (apply nt0; assumption) | (apply ndt1; assumption) | (apply ndt0; assumption) | (apply dt1; omega) | (apply dt0; omega)) ?_ | refine s_gd0 rfl rfl rfl (by first | rfl | assumption | (apply dt1; assumption) | (apply dt0; assumption) | (apply nt1; assumption) | (apply nt0; assumption) | (apply ndt1; assumption) | (apply ndt0; assumption) | (apply dt1; omega) | (apply dt0; omega)) ?_ | refine s_gd00 rfl rfl (by first | rfl | assumption | (apply dt1; assumption) | (apply dt0; assumption) | (apply nt1; assumption) | (apply nt0; assumption) | (apply ndt1; assumption) | (apply ndt0; assumption) | (apply dt1; omega) | (apply dt0; omega)) ?_ | refine s_gp1 rfl rfl rfl (fun hc => ?_) (fun hc => ?_) | refine s_gp0 rfl rfl rfl (fun hc => ?_) (fun hc => ?_) | refine s_gnp1 rfl rfl rfl (fun hc => ?_) (fun hc => ?_) | refine s_gnp0 rfl rfl rfl (fun hc => ?_) (fun hc => ?_) | refine s_gb1 rfl rfl rfl (fun hc => ?_) (fun hc => ?_) | refine s_gb0 rfl rfl rfl (fun hc => ?_) (fun hc => ?_) | refine s_gnb1 rfl rfl rfl (fun hc => ?_) (fun hc => ?_) | refine s_gnb0 rfl rfl rfl (fun hc => ?_) (fun hc => ?_))
      | (refine s_k 0 rfl ?_; refine s_val rfl rfl rfl (r_move rfl rfl) ?_)
      | (refine s_k 8 rfl ?_; first | (refine' s_val rfl rfl rfl (r_ldv rfl rfl ?qm ?qv) ?_; (case qm => (first | exact m0 | exact m1 | exact m2 | exact m3 | exact m4 | exact m5 | exact m6 | exact m7 | exact m8 | exact m9 | exact m10 | exact m11)); (case qv => (first | exact ldvL tb rfl rfl | exact ldv1 tb rfl (by assumption) | exact ldvW tb rfl rfl | exact ldvW tb rfl (by assumption) | exact ldvW tb rfl (Pv.size (by assumption)) | exact ldvN tb rfl ext2_0 rfl | exact ldvN tb rfl ext2_2 rfl))) | (refine' s_val rfl rfl rfl (r_ldo rfl rfl ?qw (by simp) ?qv) ?_; (case qw => assumption); (case qv => (first | exact ldvL tb rfl rfl | exact ldv1 tb rfl (by assumption) | exact ldvW tb rfl rfl | exact ldvW tb rfl (by assumption) | exact ldvW tb rfl (Pv.size (by assumption)) | exact ldvN tb rfl ext2_0 rfl | exact ldvN tb rfl ext2_2 rfl))))
      | (refine s_k 1 rfl ?_; refine s_val rfl rfl rfl (r_assign rfl rfl) ?_)
      | (refine s_k 13 rfl ?_; first | refine s_val rfl rfl rfl (r_lss rfl rfl rfl) ?_ | refine s_val rfl rfl rfl (r_neq rfl rfl rfl) ?_)
      | (refine s_k 35 rfl ?_; (refine s_call Try.func25 (by kernel_rfl) rfl rfl rfl rfl rfl rfl (fun w hL => sz_gt (szSpotS_any v2 l2 1048576 _ (hl2.below hL.toBelow) (by decide) (by decide)) hn2) ?_))
      | (refine s_k 14 rfl ?_; refine s_val rfl rfl rfl (r_not rfl rfl) ?_)
      | (refine s_k 2 rfl ?_; first | refine s_val rfl rfl rfl (r_pick1 rfl rfl (by first | rfl | assumption | (apply dt1; assumption) | (apply dt0; assumption) | (apply nt1; assumption) | (apply nt0; assumption) | (apply ndt1; assumption) | (apply ndt0; assumption) | (apply dt1; omega) | (apply dt0; omega)) rfl) ?_ | refine s_val rfl rfl rfl (r_pick0 rfl rfl (by first | rfl | assumption | (apply dt1; assumption) | (apply dt0; assumption) | (apply nt1; assumption) | (apply nt0; assumption) | (apply ndt1; assumption) | (apply ndt0; assumption) | (apply dt1; omega) | (apply dt0; omega)) rfl) ?_)
      | (refine s_k 4 rfl ?_; first | refine s_boxA rfl rfl rfl rfl rfl fun blk => ?_ | refine s_box1 rfl rfl rfl rfl rfl rfl fun blk => ?_)
      | (refine s_k 34 rfl ?_; refine s_val rfl rfl rfl (r_extractL rfl rfl rfl) ?_)
      | refine s_nil ?_)
      | (refine c_g ?_; first | refine c_seq ?_ | refine c_region ?_ | (refine c_gc ?_; first | refine c_cond1 rfl (by first | rfl | assumption | (apply dt1; assumption) | (apply dt0; assumption) | (apply nt1; assumption) | (apply nt0; assumption) | (apply ndt1; assumption) | (apply ndt0; assumption) | (apply dt1; omega) | (apply dt0; omega)) ?_ | refine c_cond0 rfl (by first | rfl | assumption | (apply dt1; assumption) | (apply dt0; assumption) | (apply nt1; assumption) | (apply nt0; assumption) | (apply ndt1; assumption) | (apply ndt0; assumption) | (apply dt1; omega) | (apply dt0; omega)) ?_ | refine c_condd1 rfl (by omega) ?_ | refine c_condd0 rfl (by omega) ?_ | refine c_conddn1 rfl (by omega) ?_ | refine c_conddn0 rfl (by omega) ?_ | refine c_condd rfl (fun hc => ?_) (fun hc => ?_) | refine c_conddn rfl (fun hc => ?_) (fun hc => ?_) | refine c_condn rfl (fun hc => ?_) (fun hc => ?_) | refine c_cond rfl (fun hc => ?_) (fun hc => ?_)) | refine c_block ?_ | refine c_skip ?_ | refine c_exit ?_ | refine c_ret ?_)
      | (refine e_g ?_; first | refine e_then ?_ | refine e_blkn ?_ | refine e_thenx ?_ | refine e_thenr ?_ | refine e_blkr ?_ | refine e_blkx ?_ | refine e_blky rfl ?_)
      | (refine e_ret1 (by simp) rfl (re_tmp rfl) fun w hL => ⟨rfl, hL.toBelow⟩))
  case pos =>
    have e1 : ropeV p0 s1 l2 a3 = ropeV p0 s1 l2 a3 := rfl
    have e2 : walkC p0 s1 l2 a3 = walkC p0 s1 l2 a3 := rfl
    have hmx : (l2.map Sp.cells).length ≤ maxLen := by rw [List.length_map]; unfold maxLen; omega
    obtain ⟨A2, cap2, rfl, _, _, hS2⟩ := hl2.open
    rw [List.length_map] at hl2 ⊢
    refine enter4 Try.func6 rfl rfl rfl (Own.start w) ?_
    repeat' (first
      | (refine s_g ?_; first
      | (refine s_gd rfl ?_; first | refine s_gd1 rfl rfl (by first | rfl | assumption | (apply dt1; assumption) | (apply dt0; assumption) | (apply nt1; assumption) | (apply nt0; assumption) | (apply ndt1; assumption) | (apply ndt0; assumption) | (apply dt1; omega) | (apply dt0; omega)) ?_ | refine s_gd0 rfl rfl rfl (by first | rfl | assumption | (apply dt1; assumption) | (apply dt0; assumption) | (apply nt1; assumption) | (apply nt0; assumption) | (apply ndt1; assumption) | (apply ndt0; assumption) | (apply dt1; omega) | (apply dt0; omega)) ?_ | refine s_gd00 rfl rfl (by first | rfl | assumption | (apply dt1; assumption) | (apply dt0; assumption) | (apply nt1; assumption) | (apply nt0; assumption) | (apply ndt1; assumption) | (apply ndt0; assumption) | (apply dt1; omega) | (apply dt0; omega)) ?_ | refine s_gp1 rfl rfl rfl (fun hc => ?_) (fun hc => ?_) | refine s_gp0 rfl rfl rfl (fun hc => ?_) (fun hc => ?_) | refine s_gnp1 rfl rfl rfl (fun hc => ?_) (fun hc => ?_) | refine s_gnp0 rfl rfl rfl (fun hc => ?_) (fun hc => ?_) | refine s_gb1 rfl rfl rfl (fun hc => ?_) (fun hc => ?_) | refine s_gb0 rfl rfl rfl (fun hc => ?_) (fun hc => ?_) | refine s_gnb1 rfl rfl rfl (fun hc => ?_) (fun hc => ?_) | refine s_gnb0 rfl rfl rfl (fun hc => ?_) (fun hc => ?_))
      | (refine s_k 0 rfl ?_; refine s_val rfl rfl rfl (r_move rfl rfl) ?_)
      | (refine s_k 8 rfl ?_; first | (refine' s_val rfl rfl rfl (r_ldv rfl rfl ?qm ?qv) ?_; (case qm => (first | exact m0 | exact m1 | exact m2 | exact m3 | exact m4 | exact m5 | exact m6 | exact m7 | exact m8 | exact m9 | exact m10 | exact m11)); (case qv => (first | exact ldvL tb rfl rfl | exact ldv1 tb rfl (by assumption) | exact ldvW tb rfl rfl | exact ldvW tb rfl (by assumption) | exact ldvW tb rfl (Pv.size (by assumption)) | exact ldvN tb rfl ext2_0 rfl | exact ldvN tb rfl ext2_2 rfl))) | (refine' s_val rfl rfl rfl (r_ldo rfl rfl ?qw (by simp) ?qv) ?_; (case qw => assumption); (case qv => (first | exact ldvL tb rfl rfl | exact ldv1 tb rfl (by assumption) | exact ldvW tb rfl rfl | exact ldvW tb rfl (by assumption) | exact ldvW tb rfl (Pv.size (by assumption)) | exact ldvN tb rfl ext2_0 rfl | exact ldvN tb rfl ext2_2 rfl))))
      | (refine s_k 1 rfl ?_; refine s_val rfl rfl rfl (r_assign rfl rfl) ?_)
      | (refine s_k 13 rfl ?_; first | refine s_val rfl rfl rfl (r_lss rfl rfl rfl) ?_ | refine s_val rfl rfl rfl (r_neq rfl rfl rfl) ?_)
      | (refine s_k 35 rfl ?_; first | (refine s_call Try.func25 (by kernel_rfl) rfl rfl rfl rfl rfl rfl (fun w hL => sz_le (szSpotS_any _ l2 1048576 _ (hl2.below hL.toBelow) (by decide) (by decide)) hn2) ?_) | (refine s_call Try.func27 (by kernel_rfl) rfl rfl rfl rfl rfl rfl (fun w hL => toPasture_any p0 c0 _ hp0) ?_) | (refine s_call Try.func28 (by kernel_rfl) rfl rfl rfl rfl rfl rfl (fun w hL => toSpot_any _ _ _) ?_) | (refine s_call Try.func40 (by kernel_rfl) rfl rfl rfl rfl rfl rfl (fun w hL => implRopeLeft_sl hp0 hs1 (hAq.toSl (lenSp l2) (by omega) (hL.at_ m0)) ho2) ?_) | (refine s_call Try.func31 (by kernel_rfl) rfl rfl rfl rfl rfl rfl (fun w hL => eqSpotS_same _ _ l2 _ (hAp.toSl (lenSp l2) (by omega) (hL.at_ m1)) (hAq.toSl (lenSp l2) (by omega) (hL.at_ m0)) hn2) ?_) | (refine s_callN Try.func29 (by kernel_rfl) rfl rfl rfl rfl rfl rfl (fun w hL => toSpotS_new l2 A2 cap2 w (hS2.at_ hL) hn2) fun g k cap cur hA => ?_; (try have hAp := hAq); have hAq := hA))
      | (refine s_k 14 rfl ?_; refine s_val rfl rfl rfl (r_not rfl rfl) ?_)
      | (refine s_k 2 rfl ?_; first | refine s_val rfl rfl rfl (r_pick1 rfl rfl (by first | rfl | assumption | (apply dt1; assumption) | (apply dt0; assumption) | (apply nt1; assumption) | (apply nt0; assumption) | (apply ndt1; assumption) | (apply ndt0; assumption) | (apply dt1; omega) | (apply dt0; omega)) rfl) ?_ | refine s_val rfl rfl rfl (r_pick0 rfl rfl (by first | rfl | assumption | (apply dt1; assumption) | (apply dt0; assumption) | (apply nt1; assumption) | (apply nt0; assumption) | (apply ndt1; assumption) | (apply ndt0; assumption) | (apply dt1; omega) | (apply dt0; omega)) rfl) ?_)
      | (refine s_k 4 rfl ?_; first | refine s_boxA rfl rfl rfl rfl rfl fun blk => ?_ | refine s_box1 rfl rfl rfl rfl rfl rfl fun blk => ?_)
      | (refine s_k 34 rfl ?_; refine s_val rfl rfl rfl (r_extractL rfl rfl rfl) ?_)
      | refine s_nil ?_)
      | (refine c_g ?_; first | refine c_seq ?_ | refine c_region ?_ | (refine c_gc ?_; first | refine c_cond1 rfl (by first | rfl | assumption | (apply dt1; assumption) | (apply dt0; assumption) | (apply nt1; assumption) | (apply nt0; assumption) | (apply ndt1; assumption) | (apply ndt0; assumption) | (apply dt1; omega) | (apply dt0; omega)) ?_ | refine c_cond0 rfl (by first | rfl | assumption | (apply dt1; assumption) | (apply dt0; assumption) | (apply nt1; assumption) | (apply nt0; assumption) | (apply ndt1; assumption) | (apply ndt0; assumption) | (apply dt1; omega) | (apply dt0; omega)) ?_ | refine c_condd1 rfl (by omega) ?_ | refine c_condd0 rfl (by omega) ?_ | refine c_conddn1 rfl (by omega) ?_ | refine c_conddn0 rfl (by omega) ?_ | refine c_condd rfl (fun hc => ?_) (fun hc => ?_) | refine c_conddn rfl (fun hc => ?_) (fun hc => ?_) | refine c_condn rfl (fun hc => ?_) (fun hc => ?_) | refine c_cond rfl (fun hc => ?_) (fun hc => ?_)) | refine c_block ?_ | refine c_skip ?_ | refine c_exit ?_ | refine c_ret ?_)
      | (refine e_g ?_; first | refine e_then ?_ | refine e_blkn ?_ | refine e_thenx ?_ | refine e_thenr ?_ | refine e_blkr ?_ | refine e_blkx ?_ | refine e_blky rfl ?_)
      | (refine x_g ?_; first
      | (refine x_gd rfl ?_; first | refine x_gd1 rfl rfl (by first | rfl | assumption | (apply dt1; assumption) | (apply dt0; assumption) | (apply nt1; assumption) | (apply nt0; assumption) | (apply ndt1; assumption) | (apply ndt0; assumption) | (apply dt1; omega) | (apply dt0; omega)) ?_ | (refine x_gd0 rfl rfl rfl (by first | rfl | assumption | (apply dt1; assumption) | (apply dt0; assumption) | (apply nt1; assumption) | (apply nt0; assumption) | (apply ndt1; assumption) | (apply ndt0; assumption) | (apply dt1; omega) | (apply dt0; omega)) ?hp ?_; (case hp => exact rfl)))
      | (refine x_k 0 rfl ?_; (refine x_val rfl rfl rfl (r_move rfl rfl) ?hp ?_; (case hp => exact rfl)))
      | (refine x_k 8 rfl ?_; first | (refine' x_val rfl rfl rfl (r_ldv rfl rfl ?qm ?qv) ?hp ?_; (case qm => (first | exact m0 | exact m1 | exact m2 | exact m3 | exact m4 | exact m5 | exact m6 | exact m7 | exact m8 | exact m9 | exact m10 | exact m11)); (case qv => (first | exact ldvL tb rfl rfl | exact ldv1 tb rfl (by assumption) | exact ldvW tb rfl rfl | exact ldvW tb rfl (by assumption) | exact ldvW tb rfl (Pv.size (by assumption)) | exact ldvN tb rfl ext2_0 rfl | exact ldvN tb rfl ext2_2 rfl)); (case hp => exact rfl)) | (refine' x_val rfl rfl rfl (r_ldo rfl rfl ?qw (by simp) ?qv) ?hp ?_; (case qw => assumption); (case qv => (first | exact ldvL tb rfl rfl | exact ldv1 tb rfl (by assumption) | exact ldvW tb rfl rfl | exact ldvW tb rfl (by assumption) | exact ldvW tb rfl (Pv.size (by assumption)) | exact ldvN tb rfl ext2_0 rfl | exact ldvN tb rfl ext2_2 rfl)); (case hp => exact rfl)))
      | (refine x_k 1 rfl ?_; (refine x_val rfl rfl rfl (r_assign rfl rfl) ?hp ?_; (case hp => exact rfl)))
      | (refine x_k 13 rfl ?_; first | (refine x_val rfl rfl rfl (r_lss rfl rfl rfl) ?hp ?_; (case hp => exact rfl)) | (refine x_val rfl rfl rfl (r_neq rfl rfl rfl) ?hp ?_; (case hp => exact rfl)))
      | (refine x_k 35 rfl ?_; first | (refine x_call Try.func25 (by kernel_rfl) rfl rfl rfl rfl rfl rfl (fun w hL => sz_le (szSpotS_any _ l2 1048576 _ (hl2.below hL.toBelow) (by decide) (by decide)) hn2) ?hp ?_; (case hp => exact rfl)) | (refine x_call Try.func27 (by kernel_rfl) rfl rfl rfl rfl rfl rfl (fun w hL => toPasture_any p0 c0 _ hp0) ?hp ?_; (case hp => exact rfl)) | (refine x_call Try.func28 (by kernel_rfl) rfl rfl rfl rfl rfl rfl (fun w hL => toSpot_any _ _ _) ?hp ?_; (case hp => exact rfl)) | (refine x_call Try.func40 (by kernel_rfl) rfl rfl rfl rfl rfl rfl (fun w hL => implRopeLeft_sl hp0 hs1 (hAq.toSl (lenSp l2) (by omega) (hL.at_ m0)) ho2) ?hp ?_; (case hp => exact rfl)) | (refine x_call Try.func31 (by kernel_rfl) rfl rfl rfl rfl rfl rfl (fun w hL => eqSpotS_same _ _ l2 _ (hAp.toSl (lenSp l2) (by omega) (hL.at_ m1)) (hAq.toSl (lenSp l2) (by omega) (hL.at_ m0)) hn2) ?hp ?_; (case hp => exact rfl)))
      | (refine x_k 14 rfl ?_; (refine x_val rfl rfl rfl (r_not rfl rfl) ?hp ?_; (case hp => exact rfl)))
      | (refine x_k 2 rfl ?_; first | (refine x_val rfl rfl rfl (r_pick1 rfl rfl (by first | rfl | assumption | (apply dt1; assumption) | (apply dt0; assumption) | (apply nt1; assumption) | (apply nt0; assumption) | (apply ndt1; assumption) | (apply ndt0; assumption) | (apply dt1; omega) | (apply dt0; omega)) rfl) ?hp ?_; (case hp => exact rfl)) | (refine x_val rfl rfl rfl (r_pick0 rfl rfl (by first | rfl | assumption | (apply dt1; assumption) | (apply dt0; assumption) | (apply nt1; assumption) | (apply nt0; assumption) | (apply ndt1; assumption) | (apply ndt0; assumption) | (apply dt1; omega) | (apply dt0; omega)) rfl) ?hp ?_; (case hp => exact rfl)))
      | (refine x_k 4 rfl ?_; (refine x_boxA rfl rfl rfl rfl rfl ?hp (fun blk => ?_); (case hp => exact rfl)))
      | (refine x_k 34 rfl ?_; (refine x_val rfl rfl rfl (r_extractL rfl rfl rfl) ?hp ?_; (case hp => exact rfl)))
      | refine x_nil0 ?_
      | refine x_nil ?_)
      | (refine' c_drawX (id := 7) [(Sum.inl _ : Calm.Plan), (Sum.inl _ : Calm.Plan), (Sum.inl _ : Calm.Plan), (Sum.inl _ : Calm.Plan), (Sum.inl _ : Calm.Plan), (Sum.inl _ : Calm.Plan), (Sum.inl _ : Calm.Plan), (Sum.inl _ : Calm.Plan), (Sum.inl _ : Calm.Plan), (Sum.inl _ : Calm.Plan), (Sum.inl _ : Calm.Plan), (Sum.inl _ : Calm.Plan)] (by kernel_rfl) (by kernel_rfl) (by kernel_rfl) ?_)
      | (refine y_g ?_; first
      | (refine y_gd rfl ?_; first | refine y_gd1 rfl rfl (by first | rfl | assumption | (apply dt1; assumption) | (apply dt0; assumption) | (apply nt1; assumption) | (apply nt0; assumption) | (apply ndt1; assumption) | (apply ndt0; assumption) | (apply dt1; omega) | (apply dt0; omega)) ?_ | (refine y_gd0 rfl rfl rfl (by first | rfl | assumption | (apply dt1; assumption) | (apply dt0; assumption) | (apply nt1; assumption) | (apply nt0; assumption) | (apply ndt1; assumption) | (apply ndt0; assumption) | (apply dt1; omega) | (apply dt0; omega)) ?hp ?_; (case hp => exact rfl)))
      | (refine y_k 8 rfl ?_; first | (refine' y_val rfl rfl rfl (r_ldv rfl rfl ?qm ?qv) ?hp ?_; (case qm => (first | exact m0 | exact m1 | exact m2 | exact m3 | exact m4 | exact m5 | exact m6 | exact m7 | exact m8 | exact m9 | exact m10 | exact m11)); (case qv => (first | exact ldvL tb rfl rfl | exact ldv1 tb rfl (by assumption) | exact ldvW tb rfl rfl | exact ldvW tb rfl (by assumption) | exact ldvW tb rfl (Pv.size (by assumption)) | exact ldvN tb rfl ext2_0 rfl | exact ldvN tb rfl ext2_2 rfl)); (case hp => exact rfl)) | (refine' y_val rfl rfl rfl (r_ldo rfl rfl ?qw (by simp) ?qv) ?hp ?_; (case qw => assumption); (case qv => (first | exact ldvL tb rfl rfl | exact ldv1 tb rfl (by assumption) | exact ldvW tb rfl rfl | exact ldvW tb rfl (by assumption) | exact ldvW tb rfl (Pv.size (by assumption)) | exact ldvN tb rfl ext2_0 rfl | exact ldvN tb rfl ext2_2 rfl)); (case hp => exact rfl)))
      | (refine y_k 13 rfl ?_; first | (refine y_val rfl rfl rfl (r_lss rfl rfl rfl) ?hp ?_; (case hp => exact rfl)) | (refine y_val rfl rfl rfl (r_neq rfl rfl rfl) ?hp ?_; (case hp => exact rfl)))
      | (refine y_k 35 rfl ?_; first | (refine y_call Try.func25 (by kernel_rfl) rfl rfl rfl rfl rfl rfl (fun w hL => sz_le (szSpotS_any _ l2 1048576 _ (hl2.below hL.toBelow) (by decide) (by decide)) hn2) ?hp ?_; (case hp => exact rfl)) | (refine y_call Try.func27 (by kernel_rfl) rfl rfl rfl rfl rfl rfl (fun w hL => toPasture_any p0 c0 _ hp0) ?hp ?_; (case hp => exact rfl)) | (refine y_call Try.func28 (by kernel_rfl) rfl rfl rfl rfl rfl rfl (fun w hL => toSpot_any _ _ _) ?hp ?_; (case hp => exact rfl)) | (refine y_call Try.func40 (by kernel_rfl) rfl rfl rfl rfl rfl rfl (fun w hL => implRopeLeft_sl hp0 hs1 (hAq.toSl (lenSp l2) (by omega) (hL.at_ m0)) ho2) ?hp ?_; (case hp => exact rfl)) | (refine y_call Try.func31 (by kernel_rfl) rfl rfl rfl rfl rfl rfl (fun w hL => eqSpotS_same _ _ l2 _ (hAp.toSl (lenSp l2) (by omega) (hL.at_ m1)) (hAq.toSl (lenSp l2) (by omega) (hL.at_ m0)) hn2) ?hp ?_; (case hp => exact rfl)) | (refine' y_callN Try.func29 (by kernel_rfl) rfl rfl rfl rfl rfl rfl (fun w hL => toSpotS_new l2 A2 cap2 w (hS2.at_ hL) hn2) (flat_len _ (lenSp l2)) hmx ?hp (fun g m cap cur hA => ?_); (case hp => exact rfl)) | (refine' y_rd Try.func39 (by kernel_rfl) rfl rfl rfl rfl rfl rfl List.mem_cons_self (List.mem_cons_of_mem _ (List.mem_cons_of_mem _ List.mem_cons_self)) rfl (fun w hL => specRopeLeft_sl hp0 hs1 (hA.toSl (lenSp l2) (by omega) (hL.at_ m0)) ho2) ?hp ?_; (case hp => exact rfl)))
      | (refine y_k 14 rfl ?_; (refine y_val rfl rfl rfl (r_not rfl rfl) ?hp ?_; (case hp => exact rfl)))
      | (refine y_k 2 rfl ?_; first | (refine y_val rfl rfl rfl (r_pick1 rfl rfl (by first | rfl | assumption | (apply dt1; assumption) | (apply dt0; assumption) | (apply nt1; assumption) | (apply nt0; assumption) | (apply ndt1; assumption) | (apply ndt0; assumption) | (apply dt1; omega) | (apply dt0; omega)) rfl) ?hp ?_; (case hp => exact rfl)) | (refine y_val rfl rfl rfl (r_pick0 rfl rfl (by first | rfl | assumption | (apply dt1; assumption) | (apply dt0; assumption) | (apply nt1; assumption) | (apply nt0; assumption) | (apply ndt1; assumption) | (apply ndt0; assumption) | (apply dt1; omega) | (apply dt0; omega)) rfl) ?hp ?_; (case hp => exact rfl)))
      | refine y_nil0 ?_
      | refine y_nil ?_
      | (refine' y_k 0 rfl ?_; (refine' y_move rfl rfl rfl rfl rfl ?hp ?_; (case hp => exact rfl)))
      | (refine' y_k 1 rfl ?_; (refine' y_assign rfl rfl rfl rfl rfl ?hp ?_; (case hp => exact rfl)))
      | (refine' y_k 34 rfl ?_; (refine' y_extract rfl rfl rfl rfl rfl rfl ?hp ?_; (case hp => exact rfl))))
      | (refine' c_drawY (id := 5) [(Sum.inl _ : CalmB.Plan), (Sum.inl _ : CalmB.Plan), (Sum.inl _ : CalmB.Plan), (Sum.inl _ : CalmB.Plan), (Sum.inl _ : CalmB.Plan), (Sum.inr _ : CalmB.Plan), (Sum.inl _ : CalmB.Plan), (Sum.inl _ : CalmB.Plan), (Sum.inl _ : CalmB.Plan), (Sum.inl _ : CalmB.Plan), (Sum.inl _ : CalmB.Plan), (Sum.inl _ : CalmB.Plan), (Sum.inl _ : CalmB.Plan)] (by kernel_rfl) (by kernel_rfl) ?_)
      | (refine e_ret1 (by simp) rfl (re_tmp rfl) fun w hL => ⟨rfl, hL.toBelow⟩))
namespace FnExactRopeLeftRow
open Go.ChangeShapes Go.WideShapes Go.ChangeAt Go.RowKit
theorem own : ownKnob Try.prog.godebug = none := by kernel_rfl
theorem laidOut : laidOutB Try.prog = true := by kernel_rfl
set_option maxRecDepth 100000 in
set_option maxHeartbeats 1000000 in
theorem lifted (os : Os) (started : os.Started) (H : Type) (enc : TypeId × Value → H) :
    ReturnsInHanded {} Try.checked os 6 .any (Rows.fnExactRopeLeftSpec.pre6 enc Try.prog Try.f6 Rows.fnExactRopeLeftRow.domain false) (Rows.fnExactRopeLeftSpec.post enc Try.prog Try.f6 false true false false) := by
  refine returnsInHanded_of_change (C := Try.checked) own started (by kernel_rfl) Try.func6
    (ChangeSpec.witness6 (enc := enc) (C := Try.checked) false ⟨#[], #[.agg zP, .agg #[.int .i8 0, .int .i8 0], .slice none 0 0, .int .i64 0], []⟩ 8 (by kernel_rfl) (by kernel_rfl) (by kernel_rfl) (by kernel_rfl)) ?_
  intro W base args ds gs before hval0 hW hcnd _
  have hval : ∀ (j : Nat) t v, Try.f6.params[j]? = some t → args[j]? = some v → Value.okWide Try.prog W .any base t v := hval0
  have hW' := hW
  obtain ⟨p, q, hA0, hV, rfl, hfz, hnd⟩ := hW
  have hA : DataW.TrodAll enc Try.prog W 0 (fun _ => true) true Try.f6.params.toList args.toList ds p := hA0
  rw [Try.params6] at hA hval
  obtain ⟨v0, vs0, d0, ds0, p0, q0, hargs, rfl, rfl, h0, r0⟩ := trodAll_cons hA
  obtain ⟨v1, vs1, d1, ds1, p1, q1, rfl, rfl, rfl, h1, r1⟩ := trodAll_cons r0
  obtain ⟨v2, vs2, d2, ds2, p2, q2, rfl, rfl, rfl, h2, r2⟩ := trodAll_cons r1
  obtain ⟨v3, vs3, d3, ds3, p3, q3, rfl, rfl, rfl, h3, r3⟩ := trodAll_cons r2
  obtain ⟨rfl, rfl, rfl⟩ := trodAll_nil r3
  obtain rfl : args = #[v0, v1, v2, v3] := by cases args; simp_all
  obtain ⟨rfl, rfl⟩ := trodVars_none hV
  have k0 := h0
  have lt0 : ∀ x ∈ p0, x.block < W.heap.size := by obtain ⟨m, hm⟩ := k0; exact DataW.trod_lt m _ _ _ hm
  have k1 := h1
  have lt1 : ∀ x ∈ p1, x.block < W.heap.size := by obtain ⟨m, hm⟩ := k1; exact DataW.trod_lt m _ _ _ hm
  have k2 := h2
  have lt2 : ∀ x ∈ p2, x.block < W.heap.size := by obtain ⟨m, hm⟩ := k2; exact DataW.trod_lt m _ _ _ hm
  have k3 := h3
  have lt3 : ∀ x ∈ p3, x.block < W.heap.size := by obtain ⟨m, hm⟩ := k3; exact DataW.trod_lt m _ _ _ hm
  obtain ⟨c0, rfl, hs0, hf0⟩ := open_flat (n := 5) (ks := pasK) (by kernel_rfl) (by kernel_rfl) (by kernel_rfl) (hval 0 _ v0 rfl rfl) h0
  obtain ⟨p0', hp0⟩ := pv_of_flat hs0 hf0
  obtain ⟨c1, rfl, hz1, hf1⟩ := open_flat (n := 5) (ks := spK) (by kernel_rfl) (by kernel_rfl) (by kernel_rfl) (hval 1 _ v1 rfl rfl) h1
  obtain ⟨s1, hc1, hs1⟩ := sp_of_flat (cs := c1.toList) (by rw [Array.length_toList]; exact hz1) (fun j k hj => by rw [Array.getElem?_toList]; exact hf1 j k hj)
  obtain rfl : c1 = #[.int .i8 s1.x, .int .i8 s1.y] := by apply Array.ext'; rw [hc1]; rfl
  obtain ⟨xs2, hl2, hf2⟩ := open_flat_slice (n := 5) (ks := spK) Try.underlying32 (by kernel_rfl) (by kernel_rfl) (by decide) (hval 2 _ v2 rfl rfl) h2
  obtain ⟨l2, rfl, ho2⟩ := list_of_cells (f := Sp.cells) (p := Sp.ok) xs2 (fun c hc => by
    obtain ⟨hcl, _⟩ := sl_elem hl2 c hc
    exact sp_of_flat hcl (hf2 c hc))
  obtain ⟨a3, rfl, rfl, rfl, wf3⟩ := open_int Try.underlying2 (hval 3 _ v3 rfl rfl) h3
  clear hA0 hval0
  refine (FnExactRopeLeft_walk p0' c0 s1 v2 l2 a3 W hp0 hs1 hl2 ho2 (wf_i64 wf3).1 (wf_i64 wf3).2).mono fun e W' ⟨he, bel⟩ => ?_
  subst he
  exact ⟨_, rfl, _, _, _, [], _, [], hW', trodAll_mk1 (shut_bool Try.underlying4 _), (trodAll_cons_mk (Below.trod laidOut (by kernel_rfl) (of_decide_eq_true (by kernel_rfl)) k0 bel lt0) (trodAll_cons_mk (Below.trod laidOut (by kernel_rfl) (of_decide_eq_true (by kernel_rfl)) k1 bel lt1) (trodAll_cons_mk (Below.trod laidOut (by kernel_rfl) (of_decide_eq_true (by kernel_rfl)) k2 bel lt2) (trodAll_cons_mk (Below.trod laidOut (by kernel_rfl) (of_decide_eq_true (by kernel_rfl)) k3 bel lt3) trodAll_mk0)))), rfl, bel.frame _, fun h => by cases h⟩
theorem closed : joinedFacts Try.prog 6 Try.f6 Rows.fnExactRopeLeftSpec Rows.fnExactRopeLeftRow = true := by
  unfold joinedFacts
  rw [prog_mayEnter, prog_lifts, prog_make]
  show (_ : Bool) = true
  kernel_rfl
theorem over : Rows.fnExactRopeLeftRow.holds Try.pinned (OpenSpec.ofChange Rows.fnExactRopeLeftSpec) :=
  OpenClaim.holds_of_wide 6 Try.f6 rfl rfl rfl rfl rfl rfl rfl ⟨rfl, rfl, rfl, rfl, rfl⟩ rfl rfl rfl rfl rfl (by kernel_rfl) Try.func6 closed
    (of_decide_eq_true (by kernel_rfl)) (by unfold Func.isWrapper; first | (rw [if_pos (by decide +kernel)]; kernel_rfl) | (rw [if_neg (by decide +kernel)]; exact ⟨rfl, rfl⟩))
    (fun os started H enc _ => lifted os started H enc)
end FnExactRopeLeftRow
theorem fnExactRopeLeft_holds : Rows.FnExactRopeLeftSaid := FnExactRopeLeftRow.over
#print axioms fnExactRopeLeft_holds
end Go.Proofs.Ytfefkkpcjcnmcaa
