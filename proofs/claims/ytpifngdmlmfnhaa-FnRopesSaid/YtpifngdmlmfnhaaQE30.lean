import Derived.Test.YtpifngdmlmfnhaaQE12
import Derived.Test.YtpifngdmlmfnhaaQE29
/- WindsOf, RopeLeft: both functions. No condition. -/
namespace Go.Proofs.Ytpifngdmlmfnhaa
set_option linter.unusedVariables false
set_option linter.unusedSimpArgs false
open Go.RowKit Mem Wk
attribute [local irreducible] Calls Wk.S Wk.C Wk.E Wk.X Wk.T Wk.Y Calm.wpLex CalmB.wpLex
def windsV (p : Nat → Int) (o : Sp) (l : List Sp) : Int := if walkC p o l 0 = 0 then wsum (wdB o) l (l.length - 1) else 0
set_option maxRecDepth 100000 in
theorem implWindsOf_sl {p : Nat → Int} {cs : Array Value} {o : Sp} {u : Value} {l : List Sp} {w : World} (hp : Pv p cs) (hs : o.ok) (hU : Sl w 2 u (l.map Sp.cells)) (hok : ∀ h ∈ l, h.ok) : Calls Try.prog 62 #[.agg cs, .agg #[.int .i8 o.x, .int .i8 o.y], u] w fun e w' => e = .returned (.tuple #[.int .i64 (windsV p o l), .int .i64 (walkC p o l 0)]) ∧ Below w.heap.size w w' := by
  have hn := sl_fit hU
  have hsz := hp.size
  obtain ⟨A, cap, rfl, h1, h2, hS⟩ := hU.open
  rw [List.length_map] at hn h1 ⊢
  by_cases h0 : walkC p o l 0 = 0
  · have hw := walkC_0 h0
    have hlen := walkB_len hw.2.1
    unfold windsV; rw [if_pos h0]
    refine enter3 Try.func62 rfl rfl rfl (Own.start w) ?_
    repeat' (first
      | (refine s_g ?_; first
      | (refine s_k 0 rfl ?_; refine s_val rfl rfl rfl (r_move rfl rfl) ?_)
      | (refine s_k 8 rfl ?_; first | (refine' s_val rfl rfl rfl (r_ldv rfl rfl ?qm ?qv) ?_; (case qm => (exact zMm)); (case qv => (first | exact ldvL tb rfl rfl | exact ldv1 tb rfl (by assumption) | exact ldvW tb rfl rfl | exact ldvW tb rfl (by assumption) | exact ldvW tb rfl (Pv.size (by assumption)) | exact ldvN tb rfl ext2_0 rfl | exact ldvN tb rfl ext2_2 rfl))) | (refine' s_val rfl rfl rfl (r_ldo rfl rfl ?qw (by simp) ?qv) ?_; (case qw => assumption); (case qv => (first | exact ldvL tb rfl rfl | exact ldv1 tb rfl (by assumption) | exact ldvW tb rfl rfl | exact ldvW tb rfl (by assumption) | exact ldvW tb rfl (Pv.size (by assumption)) | exact ldvN tb rfl ext2_0 rfl | exact ldvN tb rfl ext2_2 rfl))))
      | (refine s_k 1 rfl ?_; refine s_val rfl rfl rfl (r_assign rfl rfl) ?_)
      | (refine s_k 13 rfl ?_; refine s_val rfl rfl rfl (r_neq rfl rfl rfl) ?_)
      | (refine s_k 35 rfl ?_; first | (refine s_call Try.func160 (by kernel_rfl) rfl rfl rfl rfl rfl rfl (fun w hL => walkCode_any p cs o l A cap 0 _ hp hs (hS.at_ hL) hn hok) ?_) | (refine s_call Try.func161 (by kernel_rfl) rfl rfl rfl rfl rfl rfl (fun w hL => implWinds_any o l A cap _ hw.1 (hS.at_ hL) (by omega) hok) ?_))
      | (refine s_k 4 rfl ?_; first | refine s_boxA rfl rfl rfl rfl rfl fun blk => ?_ | refine s_box1 rfl rfl rfl rfl rfl rfl fun blk => ?_)
      | refine s_nil ?_)
      | (refine c_g ?_; first | refine c_seq ?_ | refine c_region ?_ | (refine c_gc ?_; first | refine c_cond1 rfl zTr ?_ | refine c_cond0 rfl zTr ?_ | refine z_condd1 rfl ?_ | refine z_condd0 rfl ?_ | refine z_conddn1 rfl ?_ | refine z_conddn0 rfl ?_ | refine c_condd rfl (fun hc => ?_) (fun hc => ?_) | refine c_conddn rfl (fun hc => ?_) (fun hc => ?_) | refine c_condn rfl (fun hc => ?_) (fun hc => ?_) | refine c_cond rfl (fun hc => ?_) (fun hc => ?_)) | refine c_block ?_ | refine c_skip ?_ | refine c_exit ?_ | refine c_ret ?_)
      | (refine e_g ?_; first | refine e_then ?_ | refine e_blkn ?_ | refine e_thenx ?_ | refine e_thenr ?_ | refine e_blkr ?_ | refine e_blkx ?_ | refine e_blky rfl ?_)
      | (refine e_ret2 (by simp) rfl (re_tmp rfl) (re_tmp rfl) fun w hL => ⟨by first | rfl | (rw [h0]; done), hL.toBelow⟩))
  · unfold windsV; rw [if_neg h0]
    refine enter3 Try.func62 rfl rfl rfl (Own.start w) ?_
    repeat' (first
      | (refine s_g ?_; first
      | (refine s_k 0 rfl ?_; refine s_val rfl rfl rfl (r_move rfl rfl) ?_)
      | (refine s_k 8 rfl ?_; first | (refine' s_val rfl rfl rfl (r_ldv rfl rfl ?qm ?qv) ?_; (case qm => (exact zMm)); (case qv => (first | exact ldvL tb rfl rfl | exact ldv1 tb rfl (by assumption) | exact ldvW tb rfl rfl | exact ldvW tb rfl (by assumption) | exact ldvW tb rfl (Pv.size (by assumption)) | exact ldvN tb rfl ext2_0 rfl | exact ldvN tb rfl ext2_2 rfl))) | (refine' s_val rfl rfl rfl (r_ldo rfl rfl ?qw (by simp) ?qv) ?_; (case qw => assumption); (case qv => (first | exact ldvL tb rfl rfl | exact ldv1 tb rfl (by assumption) | exact ldvW tb rfl rfl | exact ldvW tb rfl (by assumption) | exact ldvW tb rfl (Pv.size (by assumption)) | exact ldvN tb rfl ext2_0 rfl | exact ldvN tb rfl ext2_2 rfl))))
      | (refine s_k 1 rfl ?_; refine s_val rfl rfl rfl (r_assign rfl rfl) ?_)
      | (refine s_k 13 rfl ?_; refine s_val rfl rfl rfl (r_neq rfl rfl rfl) ?_)
      | (refine s_k 35 rfl ?_; (refine s_call Try.func160 (by kernel_rfl) rfl rfl rfl rfl rfl rfl (fun w hL => walkCode_any p cs o l A cap 0 _ hp hs (hS.at_ hL) hn hok) ?_))
      | (refine s_k 4 rfl ?_; first | refine s_boxA rfl rfl rfl rfl rfl fun blk => ?_ | refine s_box1 rfl rfl rfl rfl rfl rfl fun blk => ?_)
      | refine s_nil ?_)
      | (refine c_g ?_; first | refine c_seq ?_ | refine c_region ?_ | (refine c_gc ?_; first | refine c_cond1 rfl zTr ?_ | refine c_cond0 rfl zTr ?_ | refine z_condd1 rfl ?_ | refine z_condd0 rfl ?_ | refine z_conddn1 rfl ?_ | refine z_conddn0 rfl ?_ | refine c_condd rfl (fun hc => ?_) (fun hc => ?_) | refine c_conddn rfl (fun hc => ?_) (fun hc => ?_) | refine c_condn rfl (fun hc => ?_) (fun hc => ?_) | refine c_cond rfl (fun hc => ?_) (fun hc => ?_)) | refine c_block ?_ | refine c_skip ?_ | refine c_exit ?_ | refine c_ret ?_)
      | (refine e_g ?_; first | refine e_then ?_ | refine e_blkn ?_ | refine e_thenx ?_ | refine e_thenr ?_ | refine e_blkr ?_ | refine e_blkx ?_ | refine e_blky rfl ?_)
      | (refine e_ret2 (by simp) rfl (re_tmp rfl) (re_tmp rfl) fun w hL => ⟨rfl, hL.toBelow⟩))
set_option maxRecDepth 100000 in
theorem specWindsOf_sl {p : Nat → Int} {cs : Array Value} {o : Sp} {u : Value} {l : List Sp} {w : World} (hp : Pv p cs) (hs : o.ok) (hU : Sl w 2 u (l.map Sp.cells)) (hok : ∀ h ∈ l, h.ok) : Calls Try.prog 63 #[.agg cs, .agg #[.int .i8 o.x, .int .i8 o.y], u] w fun e w' => e = .returned (.tuple #[.int .i64 (windsV p o l), .int .i64 (walkC p o l 0)]) ∧ Below w.heap.size w w' := by
  have hn := sl_fit hU
  have hsz := hp.size
  obtain ⟨A, cap, rfl, h1, h2, hS⟩ := hU.open
  rw [List.length_map] at hn h1 ⊢
  by_cases h0 : walkC p o l 0 = 0
  · have hw := walkC_0 h0
    have hlen := walkB_len hw.2.1
    unfold windsV; rw [if_pos h0]
    refine enter3 Try.func63 rfl rfl rfl (Own.start w) ?_
    repeat' (first
      | (refine s_g ?_; first
      | (refine s_k 0 rfl ?_; refine s_val rfl rfl rfl (r_move rfl rfl) ?_)
      | (refine s_k 8 rfl ?_; first | (refine' s_val rfl rfl rfl (r_ldv rfl rfl ?qm ?qv) ?_; (case qm => (exact zMm)); (case qv => (first | exact ldvL tb rfl rfl | exact ldv1 tb rfl (by assumption) | exact ldvW tb rfl rfl | exact ldvW tb rfl (by assumption) | exact ldvW tb rfl (Pv.size (by assumption)) | exact ldvN tb rfl ext2_0 rfl | exact ldvN tb rfl ext2_2 rfl))) | (refine' s_val rfl rfl rfl (r_ldo rfl rfl ?qw (by simp) ?qv) ?_; (case qw => assumption); (case qv => (first | exact ldvL tb rfl rfl | exact ldv1 tb rfl (by assumption) | exact ldvW tb rfl rfl | exact ldvW tb rfl (by assumption) | exact ldvW tb rfl (Pv.size (by assumption)) | exact ldvN tb rfl ext2_0 rfl | exact ldvN tb rfl ext2_2 rfl))))
      | (refine s_k 1 rfl ?_; refine s_val rfl rfl rfl (r_assign rfl rfl) ?_)
      | (refine s_k 13 rfl ?_; refine s_val rfl rfl rfl (r_neq rfl rfl rfl) ?_)
      | (refine s_k 35 rfl ?_; first | (refine s_call Try.func162 (by kernel_rfl) rfl rfl rfl rfl rfl rfl (fun w hL => l05Roped_any p cs _ _ o l A cap 0 _ hp (hL.at_ m1) hs (hS.at_ hL) hn hok) ?_) | (refine s_call Try.func163 (by kernel_rfl) rfl rfl rfl rfl rfl rfl (fun w hL => specWinds_any o l A cap _ hw.1 (hS.at_ hL) (by omega) hok (fun k a b ha hb => wk_near hw.2.1 ha hb)) ?_))
      | (refine s_k 4 rfl ?_; first | refine s_boxA rfl rfl rfl rfl rfl fun blk => ?_ | refine s_box1 rfl rfl rfl rfl rfl rfl fun blk => ?_)
      | refine s_nil ?_)
      | (refine c_g ?_; first | refine c_seq ?_ | refine c_region ?_ | (refine c_gc ?_; first | refine c_cond1 rfl zTr ?_ | refine c_cond0 rfl zTr ?_ | refine z_condd1 rfl ?_ | refine z_condd0 rfl ?_ | refine z_conddn1 rfl ?_ | refine z_conddn0 rfl ?_ | refine c_condd rfl (fun hc => ?_) (fun hc => ?_) | refine c_conddn rfl (fun hc => ?_) (fun hc => ?_) | refine c_condn rfl (fun hc => ?_) (fun hc => ?_) | refine c_cond rfl (fun hc => ?_) (fun hc => ?_)) | refine c_block ?_ | refine c_skip ?_ | refine c_exit ?_ | refine c_ret ?_)
      | (refine e_g ?_; first | refine e_then ?_ | refine e_blkn ?_ | refine e_thenx ?_ | refine e_thenr ?_ | refine e_blkr ?_ | refine e_blkx ?_ | refine e_blky rfl ?_)
      | (refine e_ret2 (by simp) rfl (re_tmp rfl) (re_tmp rfl) fun w hL => ⟨by first | rfl | (rw [h0]; done), hL.toBelow⟩))
  · unfold windsV; rw [if_neg h0]
    refine enter3 Try.func63 rfl rfl rfl (Own.start w) ?_
    repeat' (first
      | (refine s_g ?_; first
      | (refine s_k 0 rfl ?_; refine s_val rfl rfl rfl (r_move rfl rfl) ?_)
      | (refine s_k 8 rfl ?_; first | (refine' s_val rfl rfl rfl (r_ldv rfl rfl ?qm ?qv) ?_; (case qm => (exact zMm)); (case qv => (first | exact ldvL tb rfl rfl | exact ldv1 tb rfl (by assumption) | exact ldvW tb rfl rfl | exact ldvW tb rfl (by assumption) | exact ldvW tb rfl (Pv.size (by assumption)) | exact ldvN tb rfl ext2_0 rfl | exact ldvN tb rfl ext2_2 rfl))) | (refine' s_val rfl rfl rfl (r_ldo rfl rfl ?qw (by simp) ?qv) ?_; (case qw => assumption); (case qv => (first | exact ldvL tb rfl rfl | exact ldv1 tb rfl (by assumption) | exact ldvW tb rfl rfl | exact ldvW tb rfl (by assumption) | exact ldvW tb rfl (Pv.size (by assumption)) | exact ldvN tb rfl ext2_0 rfl | exact ldvN tb rfl ext2_2 rfl))))
      | (refine s_k 1 rfl ?_; refine s_val rfl rfl rfl (r_assign rfl rfl) ?_)
      | (refine s_k 13 rfl ?_; refine s_val rfl rfl rfl (r_neq rfl rfl rfl) ?_)
      | (refine s_k 35 rfl ?_; (refine s_call Try.func162 (by kernel_rfl) rfl rfl rfl rfl rfl rfl (fun w hL => l05Roped_any p cs _ _ o l A cap 0 _ hp (hL.at_ m1) hs (hS.at_ hL) hn hok) ?_))
      | (refine s_k 4 rfl ?_; first | refine s_boxA rfl rfl rfl rfl rfl fun blk => ?_ | refine s_box1 rfl rfl rfl rfl rfl rfl fun blk => ?_)
      | refine s_nil ?_)
      | (refine c_g ?_; first | refine c_seq ?_ | refine c_region ?_ | (refine c_gc ?_; first | refine c_cond1 rfl zTr ?_ | refine c_cond0 rfl zTr ?_ | refine z_condd1 rfl ?_ | refine z_condd0 rfl ?_ | refine z_conddn1 rfl ?_ | refine z_conddn0 rfl ?_ | refine c_condd rfl (fun hc => ?_) (fun hc => ?_) | refine c_conddn rfl (fun hc => ?_) (fun hc => ?_) | refine c_condn rfl (fun hc => ?_) (fun hc => ?_) | refine c_cond rfl (fun hc => ?_) (fun hc => ?_)) | refine c_block ?_ | refine c_skip ?_ | refine c_exit ?_ | refine c_ret ?_)
      | (refine e_g ?_; first | refine e_then ?_ | refine e_blkn ?_ | refine e_thenx ?_ | refine e_thenr ?_ | refine e_blkr ?_ | refine e_blkx ?_ | refine e_blky rfl ?_)
      | (refine e_ret2 (by simp) rfl (re_tmp rfl) (re_tmp rfl) fun w hL => ⟨rfl, hL.toBelow⟩))
def ropeV (p : Nat → Int) (o : Sp) (l : List Sp) (len : Int) : Int := if walkC p o l len = 0 then max (len - 4 * max (wsum (wdB o) l (l.length - 1)) (0 - wsum (wdB o) l (l.length - 1))) 0 else 0
set_option maxRecDepth 100000 in
theorem l00Max_any (a b : Int) (w : World) : Calls Try.prog 164 #[.int .i64 a, .int .i64 b] w fun e w' => e = .returned (.int .i64 (max a b)) ∧ Below w.heap.size w w' := by
  by_cases h : b < a
  · refine enter2 Try.func164 rfl rfl rfl (Own.start w) ?_
    repeat' (first
      | (refine s_g ?_; first
      | (refine s_k 0 rfl ?_; refine s_val rfl rfl rfl (r_move rfl rfl) ?_)
      | (refine s_k 1 rfl ?_; refine s_val rfl rfl rfl (r_assign rfl rfl) ?_)
      | (refine s_k 13 rfl ?_; refine s_val rfl rfl rfl (r_gtr rfl rfl rfl) ?_)
      | refine s_nil ?_)
      | (refine c_g ?_; first | refine c_seq ?_ | refine c_region ?_ | (refine c_gc ?_; first | refine c_cond1 rfl zTr ?_ | refine c_cond0 rfl zTr ?_ | refine z_condd1 rfl ?_ | refine z_condd0 rfl ?_ | refine z_conddn1 rfl ?_ | refine z_conddn0 rfl ?_ | refine c_condd rfl (fun hc => ?_) (fun hc => ?_) | refine c_conddn rfl (fun hc => ?_) (fun hc => ?_) | refine c_condn rfl (fun hc => ?_) (fun hc => ?_) | refine c_cond rfl (fun hc => ?_) (fun hc => ?_)) | refine c_block ?_ | refine c_skip ?_ | refine c_exit ?_ | refine c_ret ?_)
      | (refine e_g ?_; first | refine e_then ?_ | refine e_blkn ?_ | refine e_thenx ?_ | refine e_thenr ?_ | refine e_blkr ?_ | refine e_blkx ?_ | refine e_blky rfl ?_)
      | (refine e_ret1 (by simp) rfl (re_tmp rfl) fun w hL => ⟨by congr 2; omega, hL.toBelow⟩))
  · refine enter2 Try.func164 rfl rfl rfl (Own.start w) ?_
    repeat' (first
      | (refine s_g ?_; first
      | (refine s_k 0 rfl ?_; refine s_val rfl rfl rfl (r_move rfl rfl) ?_)
      | (refine s_k 1 rfl ?_; refine s_val rfl rfl rfl (r_assign rfl rfl) ?_)
      | (refine s_k 13 rfl ?_; refine s_val rfl rfl rfl (r_gtr rfl rfl rfl) ?_)
      | refine s_nil ?_)
      | (refine c_g ?_; first | refine c_seq ?_ | refine c_region ?_ | (refine c_gc ?_; first | refine c_cond1 rfl zTr ?_ | refine c_cond0 rfl zTr ?_ | refine z_condd1 rfl ?_ | refine z_condd0 rfl ?_ | refine z_conddn1 rfl ?_ | refine z_conddn0 rfl ?_ | refine c_condd rfl (fun hc => ?_) (fun hc => ?_) | refine c_conddn rfl (fun hc => ?_) (fun hc => ?_) | refine c_condn rfl (fun hc => ?_) (fun hc => ?_) | refine c_cond rfl (fun hc => ?_) (fun hc => ?_)) | refine c_block ?_ | refine c_skip ?_ | refine c_exit ?_ | refine c_ret ?_)
      | (refine e_g ?_; first | refine e_then ?_ | refine e_blkn ?_ | refine e_thenx ?_ | refine e_thenr ?_ | refine e_blkr ?_ | refine e_blkx ?_ | refine e_blky rfl ?_)
      | (refine e_ret1 (by simp) rfl (re_tmp rfl) fun w hL => ⟨by congr 2; omega, hL.toBelow⟩))
theorem in1000 {n : Int} (h : inB n 0 1000 = true) : 0 ≤ n ∧ n ≤ 1000 := by unfold inB at h; simpa using h
set_option maxRecDepth 100000 in
theorem implRopeLeft_sl {p : Nat → Int} {cs : Array Value} {o : Sp} {u : Value} {l : List Sp} {len : Int} {w : World} (hp : Pv p cs) (hs : o.ok) (hU : Sl w 2 u (l.map Sp.cells)) (hok : ∀ h ∈ l, h.ok) : Calls Try.prog 65 #[.agg cs, .agg #[.int .i8 o.x, .int .i8 o.y], u, .int .i64 len] w fun e w' => e = .returned (.tuple #[.int .i64 (ropeV p o l len), .int .i64 (walkC p o l len)]) ∧ Below w.heap.size w w' := by
  have hn := sl_fit hU
  have hsz := hp.size
  obtain ⟨A, cap, rfl, h1, h2, hS⟩ := hU.open
  rw [List.length_map] at hn h1 ⊢
  by_cases h0 : walkC p o l len = 0
  · have hw := walkC_0 h0
    have hlen := walkB_len hw.2.1
    have hl := in1000 hw.2.2
    have hle := wsum_le o l (l.length - 1)
    unfold ropeV; rw [if_pos h0]
    have hcall := fun w' hL => implWinds_any o l A cap w' hw.1 hL (by omega) hok
    generalize wsum (wdB o) l (l.length - 1) = n at *
    refine enter4 Try.func65 rfl rfl rfl (Own.start w) ?_
    repeat' (first
      | (refine s_g ?_; first
      | (refine s_k 0 rfl ?_; refine s_val rfl rfl rfl (r_move rfl rfl) ?_)
      | (refine s_k 8 rfl ?_; first | (refine' s_val rfl rfl rfl (r_ldv rfl rfl ?qm ?qv) ?_; (case qm => (exact zMm)); (case qv => (first | exact ldvL tb rfl rfl | exact ldv1 tb rfl (by assumption) | exact ldvW tb rfl rfl | exact ldvW tb rfl (by assumption) | exact ldvW tb rfl (Pv.size (by assumption)) | exact ldvN tb rfl ext2_0 rfl | exact ldvN tb rfl ext2_2 rfl))) | (refine' s_val rfl rfl rfl (r_ldo rfl rfl ?qw (by simp) ?qv) ?_; (case qw => assumption); (case qv => (first | exact ldvL tb rfl rfl | exact ldv1 tb rfl (by assumption) | exact ldvW tb rfl rfl | exact ldvW tb rfl (by assumption) | exact ldvW tb rfl (Pv.size (by assumption)) | exact ldvN tb rfl ext2_0 rfl | exact ldvN tb rfl ext2_2 rfl))))
      | (refine s_k 1 rfl ?_; refine s_val rfl rfl rfl (r_assign rfl rfl) ?_)
      | (refine s_k 13 rfl ?_; first | refine s_val rfl rfl rfl (r_neq rfl rfl rfl) ?_ | refine s_val rfl rfl rfl (r_sub rfl rfl rfl (wrap_in (by simp only [lo, hi]; omega))) ?_ | refine s_val rfl rfl rfl (r_mul rfl rfl rfl (wrap_in (by simp only [lo, hi]; omega))) ?_)
      | (refine s_k 35 rfl ?_; first | (refine s_call Try.func160 (by kernel_rfl) rfl rfl rfl rfl rfl rfl (fun w hL => walkCode_any p cs o l A cap len _ hp hs (hS.at_ hL) hn hok) ?_) | (refine s_call Try.func161 (by kernel_rfl) rfl rfl rfl rfl rfl rfl (fun w hL => hcall _ (hS.at_ hL)) ?_))
      | (refine s_k 14 rfl ?_; refine s_val rfl rfl rfl (r_neg rfl rfl (wrap_in (by simp only [lo, hi]; omega))) ?_)
      | (refine s_k 4 rfl ?_; first | refine s_boxA rfl rfl rfl rfl rfl fun blk => ?_ | refine s_box1 rfl rfl rfl rfl rfl rfl fun blk => ?_)
      | (refine s_k 36 rfl ?_; refine s_val rfl rfl rfl (r_max rfl rfl rfl) ?_)
      | refine s_nil ?_)
      | (refine c_g ?_; first | refine c_seq ?_ | refine c_region ?_ | (refine c_gc ?_; first | refine c_cond1 rfl zTr ?_ | refine c_cond0 rfl zTr ?_ | refine z_condd1 rfl ?_ | refine z_condd0 rfl ?_ | refine z_conddn1 rfl ?_ | refine z_conddn0 rfl ?_ | refine c_condd rfl (fun hc => ?_) (fun hc => ?_) | refine c_conddn rfl (fun hc => ?_) (fun hc => ?_) | refine c_condn rfl (fun hc => ?_) (fun hc => ?_) | refine c_cond rfl (fun hc => ?_) (fun hc => ?_)) | refine c_block ?_ | refine c_skip ?_ | refine c_exit ?_ | refine c_ret ?_)
      | (refine e_g ?_; first | refine e_then ?_ | refine e_blkn ?_ | refine e_thenx ?_ | refine e_thenr ?_ | refine e_blkr ?_ | refine e_blkx ?_ | refine e_blky rfl ?_)
      | (refine e_ret2 (by simp) rfl (re_tmp rfl) (re_tmp rfl) fun w hL => ⟨by first | rfl | (rw [h0]; done), hL.toBelow⟩))
  · unfold ropeV; rw [if_neg h0]
    refine enter4 Try.func65 rfl rfl rfl (Own.start w) ?_
    repeat' (first
      | (refine s_g ?_; first
      | (refine s_k 0 rfl ?_; refine s_val rfl rfl rfl (r_move rfl rfl) ?_)
      | (refine s_k 8 rfl ?_; first | (refine' s_val rfl rfl rfl (r_ldv rfl rfl ?qm ?qv) ?_; (case qm => (exact zMm)); (case qv => (first | exact ldvL tb rfl rfl | exact ldv1 tb rfl (by assumption) | exact ldvW tb rfl rfl | exact ldvW tb rfl (by assumption) | exact ldvW tb rfl (Pv.size (by assumption)) | exact ldvN tb rfl ext2_0 rfl | exact ldvN tb rfl ext2_2 rfl))) | (refine' s_val rfl rfl rfl (r_ldo rfl rfl ?qw (by simp) ?qv) ?_; (case qw => assumption); (case qv => (first | exact ldvL tb rfl rfl | exact ldv1 tb rfl (by assumption) | exact ldvW tb rfl rfl | exact ldvW tb rfl (by assumption) | exact ldvW tb rfl (Pv.size (by assumption)) | exact ldvN tb rfl ext2_0 rfl | exact ldvN tb rfl ext2_2 rfl))))
      | (refine s_k 1 rfl ?_; refine s_val rfl rfl rfl (r_assign rfl rfl) ?_)
      | (refine s_k 13 rfl ?_; first | refine s_val rfl rfl rfl (r_neq rfl rfl rfl) ?_ | refine s_val rfl rfl rfl (r_sub rfl rfl rfl (wrap_in (by simp only [lo, hi]; omega))) ?_ | refine s_val rfl rfl rfl (r_mul rfl rfl rfl (wrap_in (by simp only [lo, hi]; omega))) ?_)
      | (refine s_k 35 rfl ?_; (refine s_call Try.func160 (by kernel_rfl) rfl rfl rfl rfl rfl rfl (fun w hL => walkCode_any p cs o l A cap len _ hp hs (hS.at_ hL) hn hok) ?_))
      | (refine s_k 14 rfl ?_; refine s_val rfl rfl rfl (r_neg rfl rfl (wrap_in (by simp only [lo, hi]; omega))) ?_)
      | (refine s_k 4 rfl ?_; first | refine s_boxA rfl rfl rfl rfl rfl fun blk => ?_ | refine s_box1 rfl rfl rfl rfl rfl rfl fun blk => ?_)
      | (refine s_k 36 rfl ?_; refine s_val rfl rfl rfl (r_max rfl rfl rfl) ?_)
      | refine s_nil ?_)
      | (refine c_g ?_; first | refine c_seq ?_ | refine c_region ?_ | (refine c_gc ?_; first | refine c_cond1 rfl zTr ?_ | refine c_cond0 rfl zTr ?_ | refine z_condd1 rfl ?_ | refine z_condd0 rfl ?_ | refine z_conddn1 rfl ?_ | refine z_conddn0 rfl ?_ | refine c_condd rfl (fun hc => ?_) (fun hc => ?_) | refine c_conddn rfl (fun hc => ?_) (fun hc => ?_) | refine c_condn rfl (fun hc => ?_) (fun hc => ?_) | refine c_cond rfl (fun hc => ?_) (fun hc => ?_)) | refine c_block ?_ | refine c_skip ?_ | refine c_exit ?_ | refine c_ret ?_)
      | (refine e_g ?_; first | refine e_then ?_ | refine e_blkn ?_ | refine e_thenx ?_ | refine e_thenr ?_ | refine e_blkr ?_ | refine e_blkx ?_ | refine e_blky rfl ?_)
      | (refine e_ret2 (by simp) rfl (re_tmp rfl) (re_tmp rfl) fun w hL => ⟨rfl, hL.toBelow⟩))
set_option maxRecDepth 100000 in
theorem specRopeLeft_sl {p : Nat → Int} {cs : Array Value} {o : Sp} {u : Value} {l : List Sp} {len : Int} {w : World} (hp : Pv p cs) (hs : o.ok) (hU : Sl w 2 u (l.map Sp.cells)) (hok : ∀ h ∈ l, h.ok) : Calls Try.prog 66 #[.agg cs, .agg #[.int .i8 o.x, .int .i8 o.y], u, .int .i64 len] w fun e w' => e = .returned (.tuple #[.int .i64 (ropeV p o l len), .int .i64 (walkC p o l len)]) ∧ Below w.heap.size w w' := by
  have hn := sl_fit hU
  have hsz := hp.size
  obtain ⟨A, cap, rfl, h1, h2, hS⟩ := hU.open
  rw [List.length_map] at hn h1 ⊢
  by_cases h0 : walkC p o l len = 0
  · have hw := walkC_0 h0
    have hlen := walkB_len hw.2.1
    have hl := in1000 hw.2.2
    have hle := wsum_le o l (l.length - 1)
    unfold ropeV; rw [if_pos h0]
    have hcall := fun w' hL => specWinds_any o l A cap w' hw.1 hL (by omega) hok (fun k a b ha hb => wk_near hw.2.1 ha hb)
    generalize wsum (wdB o) l (l.length - 1) = n at *
    rw [Int.max_comm]
    refine enter4 Try.func66 rfl rfl rfl (Own.start w) ?_
    repeat' (first
      | (refine s_g ?_; first
      | (refine s_k 0 rfl ?_; refine s_val rfl rfl rfl (r_move rfl rfl) ?_)
      | (refine s_k 8 rfl ?_; first | (refine' s_val rfl rfl rfl (r_ldv rfl rfl ?qm ?qv) ?_; (case qm => (exact zMm)); (case qv => (first | exact ldvL tb rfl rfl | exact ldv1 tb rfl (by assumption) | exact ldvW tb rfl rfl | exact ldvW tb rfl (by assumption) | exact ldvW tb rfl (Pv.size (by assumption)) | exact ldvN tb rfl ext2_0 rfl | exact ldvN tb rfl ext2_2 rfl))) | (refine' s_val rfl rfl rfl (r_ldo rfl rfl ?qw (by simp) ?qv) ?_; (case qw => assumption); (case qv => (first | exact ldvL tb rfl rfl | exact ldv1 tb rfl (by assumption) | exact ldvW tb rfl rfl | exact ldvW tb rfl (by assumption) | exact ldvW tb rfl (Pv.size (by assumption)) | exact ldvN tb rfl ext2_0 rfl | exact ldvN tb rfl ext2_2 rfl))))
      | (refine s_k 1 rfl ?_; refine s_val rfl rfl rfl (r_assign rfl rfl) ?_)
      | (refine s_k 13 rfl ?_; first | refine s_val rfl rfl rfl (r_neq rfl rfl rfl) ?_ | refine s_val rfl rfl rfl (r_sub rfl rfl rfl (wrap_in (by simp only [lo, hi]; omega))) ?_ | refine s_val rfl rfl rfl (r_mul rfl rfl rfl (wrap_in (by simp only [lo, hi]; omega))) ?_)
      | (refine s_k 35 rfl ?_; first | (refine s_call Try.func162 (by kernel_rfl) rfl rfl rfl rfl rfl rfl (fun w hL => l05Roped_any p cs _ _ o l A cap len _ hp (hL.at_ m1) hs (hS.at_ hL) hn hok) ?_) | (refine s_call Try.func163 (by kernel_rfl) rfl rfl rfl rfl rfl rfl (fun w hL => hcall _ (hS.at_ hL)) ?_) | (refine s_call Try.func164 (by kernel_rfl) rfl rfl rfl rfl rfl rfl (fun w hL => l00Max_any _ _ _) ?_))
      | (refine s_k 14 rfl ?_; refine s_val rfl rfl rfl (r_neg rfl rfl (wrap_in (by simp only [lo, hi]; omega))) ?_)
      | (refine s_k 4 rfl ?_; first | refine s_boxA rfl rfl rfl rfl rfl fun blk => ?_ | refine s_box1 rfl rfl rfl rfl rfl rfl fun blk => ?_)
      | refine s_nil ?_)
      | (refine c_g ?_; first | refine c_seq ?_ | refine c_region ?_ | (refine c_gc ?_; first | refine c_cond1 rfl zTr ?_ | refine c_cond0 rfl zTr ?_ | refine z_condd1 rfl ?_ | refine z_condd0 rfl ?_ | refine z_conddn1 rfl ?_ | refine z_conddn0 rfl ?_ | refine c_condd rfl (fun hc => ?_) (fun hc => ?_) | refine c_conddn rfl (fun hc => ?_) (fun hc => ?_) | refine c_condn rfl (fun hc => ?_) (fun hc => ?_) | refine c_cond rfl (fun hc => ?_) (fun hc => ?_)) | refine c_block ?_ | refine c_skip ?_ | refine c_exit ?_ | refine c_ret ?_)
      | (refine e_g ?_; first | refine e_then ?_ | refine e_blkn ?_ | refine e_thenx ?_ | refine e_thenr ?_ | refine e_blkr ?_ | refine e_blkx ?_ | refine e_blky rfl ?_)
      | (refine e_ret2 (by simp) rfl (re_tmp rfl) (re_tmp rfl) fun w hL => ⟨by first | rfl | (rw [h0]; done), hL.toBelow⟩))
  · unfold ropeV; rw [if_neg h0]
    refine enter4 Try.func66 rfl rfl rfl (Own.start w) ?_
    repeat' (first
      | (refine s_g ?_; first
      | (refine s_k 0 rfl ?_; refine s_val rfl rfl rfl (r_move rfl rfl) ?_)
      | (refine s_k 8 rfl ?_; first | (refine' s_val rfl rfl rfl (r_ldv rfl rfl ?qm ?qv) ?_; (case qm => (exact zMm)); (case qv => (first | exact ldvL tb rfl rfl | exact ldv1 tb rfl (by assumption) | exact ldvW tb rfl rfl | exact ldvW tb rfl (by assumption) | exact ldvW tb rfl (Pv.size (by assumption)) | exact ldvN tb rfl ext2_0 rfl | exact ldvN tb rfl ext2_2 rfl))) | (refine' s_val rfl rfl rfl (r_ldo rfl rfl ?qw (by simp) ?qv) ?_; (case qw => assumption); (case qv => (first | exact ldvL tb rfl rfl | exact ldv1 tb rfl (by assumption) | exact ldvW tb rfl rfl | exact ldvW tb rfl (by assumption) | exact ldvW tb rfl (Pv.size (by assumption)) | exact ldvN tb rfl ext2_0 rfl | exact ldvN tb rfl ext2_2 rfl))))
      | (refine s_k 1 rfl ?_; refine s_val rfl rfl rfl (r_assign rfl rfl) ?_)
      | (refine s_k 13 rfl ?_; first | refine s_val rfl rfl rfl (r_neq rfl rfl rfl) ?_ | refine s_val rfl rfl rfl (r_sub rfl rfl rfl (wrap_in (by simp only [lo, hi]; omega))) ?_ | refine s_val rfl rfl rfl (r_mul rfl rfl rfl (wrap_in (by simp only [lo, hi]; omega))) ?_)
      | (refine s_k 35 rfl ?_; (refine s_call Try.func162 (by kernel_rfl) rfl rfl rfl rfl rfl rfl (fun w hL => l05Roped_any p cs _ _ o l A cap len _ hp (hL.at_ m1) hs (hS.at_ hL) hn hok) ?_))
      | (refine s_k 14 rfl ?_; refine s_val rfl rfl rfl (r_neg rfl rfl (wrap_in (by simp only [lo, hi]; omega))) ?_)
      | (refine s_k 4 rfl ?_; first | refine s_boxA rfl rfl rfl rfl rfl fun blk => ?_ | refine s_box1 rfl rfl rfl rfl rfl rfl fun blk => ?_)
      | refine s_nil ?_)
      | (refine c_g ?_; first | refine c_seq ?_ | refine c_region ?_ | (refine c_gc ?_; first | refine c_cond1 rfl zTr ?_ | refine c_cond0 rfl zTr ?_ | refine z_condd1 rfl ?_ | refine z_condd0 rfl ?_ | refine z_conddn1 rfl ?_ | refine z_conddn0 rfl ?_ | refine c_condd rfl (fun hc => ?_) (fun hc => ?_) | refine c_conddn rfl (fun hc => ?_) (fun hc => ?_) | refine c_condn rfl (fun hc => ?_) (fun hc => ?_) | refine c_cond rfl (fun hc => ?_) (fun hc => ?_)) | refine c_block ?_ | refine c_skip ?_ | refine c_exit ?_ | refine c_ret ?_)
      | (refine e_g ?_; first | refine e_then ?_ | refine e_blkn ?_ | refine e_thenx ?_ | refine e_thenr ?_ | refine e_blkr ?_ | refine e_blkx ?_ | refine e_blky rfl ?_)
      | (refine e_ret2 (by simp) rfl (re_tmp rfl) (re_tmp rfl) fun w hL => ⟨rfl, hL.toBelow⟩))
theorem walkC_ok {p : Nat → Int} {a : Sp} {l : List Sp} {len : Int} (hv : validP p = true) (ha : cel p a) (hw : WkOk p a l) (h1 : 1 ≤ l.length) (h2 : l.length ≤ 200) (h3 : 0 ≤ len ∧ len ≤ 1000) : walkC p a l len = 0 := by
  have hb : walkB p a l = true := walkB_iff.2 ⟨⟨h1, h2⟩, hw⟩
  unfold cel at ha
  have e1 : cellC p [a] = 0 := by unfold cellC; rw [hv]; simp [ha]
  have e2 : inB len 0 1000 = true := by unfold inB; simp; omega
  have e3 : wkV p a l = true := by unfold wkV; rw [hv, ha, hb]; rfl
  unfold walkC
  rw [e1, e2, e3]
  simp [fstC]
theorem windsV_ok {p : Nat → Int} {a : Sp} {l : List Sp} (h : walkC p a l 0 = 0) : windsV p a l = wnd a l := by unfold windsV wnd; rw [if_pos h]
theorem ropeV_rng (p : Nat → Int) (a : Sp) (l : List Sp) : 0 ≤ ropeV p a l 9 ∧ ropeV p a l 9 ≤ 9 := by
  unfold ropeV
  split <;> omega
theorem wkV_nil (p : Nat → Int) (a : Sp) : wkV p a [] = false := by
  have h : walkB p a [] = false := rfl
  unfold wkV; rw [h, Bool.and_false]
theorem Sl.drop {w : World} {g off n cap k : Nat} {xs : List (List Value)} {sz : Nat} (h : Sl w sz (.slice (some ⟨g, off, none⟩) n cap) xs) (hk : k ≤ n) : Sl w sz (.slice (some ⟨g, off + k * sz, none⟩) (n - k) (cap - k)) (xs.drop k) := by
  obtain ⟨A, cp, e, h1, h2, h3⟩ := h
  injection e with e1 e2 e3
  subst e1; subst e2; subst e3
  refine ⟨_, cap - k, by rw [List.length_drop], by rw [List.length_drop]; omega, by omega, fun i c hc => ?_⟩
  have hS : SlA [] w sz (some ⟨g, off, none⟩) xs := fun i c hc => by
    obtain ⟨q1, b, o, q2, q3⟩ := h3 i c hc
    exact ⟨q1, b, o, q2, by simp, q3⟩
  obtain ⟨q1, b, o, q2, _, q3⟩ := hS.drop k i c hc
  exact ⟨q1, b, o, q2, q3⟩
end Go.Proofs.Ytpifngdmlmfnhaa
