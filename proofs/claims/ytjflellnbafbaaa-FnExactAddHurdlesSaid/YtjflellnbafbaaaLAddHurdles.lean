/- AddHurdles: the program's and the reference's return the same, for all arguments: no condition. -/
import Derived.Test.YtjflellnbafbaaaRows
import Derived.Test.YtjflellnbafbaaaAdd
import Derived.Test.YtjflellnbafbaaaRe
import Derived.Test.YtjflellnbafbaaaEqP
namespace Go.Proofs.Ytjflellnbafbaaa
set_option linter.unusedVariables false
set_option linter.unusedSimpArgs false
open Go.RowKit Mem Wk
attribute [local irreducible] Calls Wk.S Wk.C Wk.E Wk.X Wk.T Calm.wpLex

theorem sz_le {f : FuncId} {args : Array Value} {w : World} {n : Nat} (h : Calls Try.prog f args w fun e w' => e = .returned (.int .i64 (if (n : Int) ≤ 1048576 then 1048576 - n else -1)) ∧ w = w') (hn : n ≤ 1048576) : Calls Try.prog f args w fun e w' => e = .returned (.int .i64 (1048576 - n)) ∧ Below w.heap.size w w' := by
  rw [if_pos (by omega)] at h; exact to_below h rfl
theorem sz_gt {f : FuncId} {args : Array Value} {w : World} {n : Nat} (h : Calls Try.prog f args w fun e w' => e = .returned (.int .i64 (if (n : Int) ≤ 1048576 then 1048576 - n else -1)) ∧ w = w') (hn : ¬ n ≤ 1048576) : Calls Try.prog f args w fun e w' => e = .returned (.int .i64 (-1)) ∧ Below w.heap.size w w' := by
  rw [if_neg (by omega)] at h; exact to_below h rfl
theorem sl_fit {w : World} {sz : Nat} {v : Value} {xs : List (List Value)} (h : Sl w sz v xs) : xs.length ≤ maxLen := by obtain ⟨A, cap, _, h1, h2, _⟩ := h; omega
theorem spec_sl {p : Nat → Int} {cs c' : Array Value} {u : Value} {l : List Hd} {w : World} (hp : Pv p cs) (hU : Sl w 3 u (l.map Hd.cells)) (hok : ∀ h ∈ l, h.ok) (hc' : Pv (addV p l true) c') : Calls Try.prog 50 #[.agg cs, u] w fun e w' => e = .returned (.tuple #[.agg c', .int .i64 (hurdleC p l)]) ∧ Below w.heap.size w w' := by
  have hn := sl_fit hU
  obtain ⟨A, cap, rfl, h1, h2, hS⟩ := hU.open
  rw [List.length_map] at hn h1 ⊢
  exact specAddHurdles_any p cs c' l A cap w hp hS hn hok hc'
theorem impl_sl {p : Nat → Int} {cs c' : Array Value} {u : Value} {l : List Hd} {w : World} (hp : Pv p cs) (hU : Sl w 3 u (l.map Hd.cells)) (hok : ∀ h ∈ l, h.ok) (hc' : Pv (addV p l true) c') : Calls Try.prog 52 #[.agg cs, u] w fun e w' => e = .returned (.tuple #[.agg c', .int .i64 (hurdleC p l)]) ∧ Below w.heap.size w w' := by
  have hn := sl_fit hU
  obtain ⟨A, cap, rfl, h1, h2, hS⟩ := hU.open
  rw [List.length_map] at hn h1 ⊢
  exact implAddHurdles_any p cs c' l A cap w hp hS hn hok hc'
set_option maxRecDepth 100000 in
set_option maxHeartbeats 400000 in
theorem FnExactAddHurdles_walk (p0 : Nat → Int) (c0 : Array Value) (v1 : Value) (l1 : List Hd) (w : World) (hp0 : Pv p0 c0) (hl1 : Sl w 3 v1 (l1.map Hd.cells)) (ho1 : ∀ s ∈ l1, s.ok) :
    Calls Try.prog 13 #[.agg c0, v1] w fun e w' => e = .returned (.bool true) ∧ Below w.heap.size w w' := by
  have hsz := hp0.size
  have hB := Below.refl w.heap.size w
  have hK := Kw.nil w
  obtain ⟨c', hc'⟩ := addV_ex (l := l1) (on := true) hp0
  by_cases hn1 : l1.length ≤ 1048576
  case neg =>
    refine enter2 Try.func13 rfl rfl rfl (Own.start w) ?_
    repeat' (first
      | (refine s_g ?_; first
      | (refine s_gd rfl ?_; first | refine s_gd1 rfl rfl (by first | rfl | assumption | (apply dt1; assumption) | (apply dt0; assumption) | (apply nt1; assumption) | (apply nt0; assumption) | (apply ndt1; assumption) | (apply ndt0; assumption) | (apply dt1; omega) | (apply dt0; omega)) ?_ | refine s_gd0 rfl rfl rfl (by first | rfl | assumption | (apply dt1; assumption) | (apply dt0; assumption) | (apply nt1; assumption) | (apply nt0; assumption) | (apply ndt1; assumption) | (apply ndt0; assumption) | (apply dt1; omega) | (apply dt0; omega)) ?_ | refine s_gd00 rfl rfl (by first | rfl | assumption | (apply dt1; assumption) | (apply dt0; assumption) | (apply nt1; assumption) | (apply nt0; assumption) | (apply ndt1; assumption) | (apply ndt0; assumption) | (apply dt1; omega) | (apply dt0; omega)) ?_ | refine s_gp1 rfl rfl rfl (fun hc => ?_) (fun hc => ?_) | refine s_gp0 rfl rfl rfl (fun hc => ?_) (fun hc => ?_) | refine s_gnp1 rfl rfl rfl (fun hc => ?_) (fun hc => ?_) | refine s_gnp0 rfl rfl rfl (fun hc => ?_) (fun hc => ?_) | refine s_gb1 rfl rfl rfl (fun hc => ?_) (fun hc => ?_) | refine s_gb0 rfl rfl rfl (fun hc => ?_) (fun hc => ?_) | refine s_gnb1 rfl rfl rfl (fun hc => ?_) (fun hc => ?_) | refine s_gnb0 rfl rfl rfl (fun hc => ?_) (fun hc => ?_))
      | (refine s_k 0 rfl ?_; refine s_val rfl rfl rfl (r_move rfl rfl) ?_)
      | (refine s_k 23 rfl ?_; first | refine s_val rfl rfl rfl (r_field tb rfl rfl rfl) ?_ | refine s_val rfl rfl rfl (r_fieldS tb rfl rfl rfl) ?_)
      | (refine s_k 8 rfl ?_; first | (refine' s_val rfl rfl rfl (r_ldv rfl rfl ?m ?v) ?_; (case m => (first | exact m0 | exact m1 | exact m2 | exact m3 | exact m4 | exact m5 | exact m6 | exact m7 | exact m8 | exact m9 | exact m10 | exact m11)); (case v => (first | exact ldvL tb rfl rfl | exact ldv1 tb rfl (by assumption) | exact ldvW tb rfl rfl | exact ldvW tb rfl (by assumption) | exact ldvW tb rfl (Pv.size (by assumption)) | exact ldvN tb rfl ext2_0 rfl | exact ldvN tb rfl ext2_2 rfl))) | (refine' s_val rfl rfl rfl (r_ldo rfl rfl ?w (by simp) ?v) ?_; (case w => assumption); (case v => (first | exact ldvL tb rfl rfl | exact ldv1 tb rfl (by assumption) | exact ldvW tb rfl rfl | exact ldvW tb rfl (by assumption) | exact ldvW tb rfl (Pv.size (by assumption)) | exact ldvN tb rfl ext2_0 rfl | exact ldvN tb rfl ext2_2 rfl))))
      | (refine s_k 1 rfl ?_; refine s_val rfl rfl rfl (r_assign rfl rfl) ?_)
      | (refine s_k 13 rfl ?_; first | refine s_val rfl rfl rfl (r_lss rfl rfl rfl) ?_ | refine s_val rfl rfl rfl (r_eql rfl rfl rfl) ?_ | refine s_val rfl rfl rfl (r_neq rfl rfl rfl) ?_ | refine s_val rfl rfl rfl (r_add rfl rfl rfl (wrap_in (by simp only [lo, hi]; omega))) ?_ | refine s_val rfl rfl rfl (r_sub rfl rfl rfl (wrap_in (by simp only [lo, hi]; omega))) ?_ | refine s_val rfl rfl rfl (r_leq rfl rfl rfl) ?_ | refine s_val rfl rfl rfl (r_gtr rfl rfl rfl) ?_ | refine s_val rfl rfl rfl (r_geq rfl rfl rfl) ?_ | refine s_val rfl rfl rfl (r_mul rfl rfl rfl (wrap_in (by simp only [lo, hi]; omega))) ?_ | refine s_val rfl rfl rfl (r_and rfl rfl rfl) ?_ | refine s_val rfl rfl rfl (r_or rfl rfl rfl) ?_ | refine s_val rfl rfl rfl (r_an rfl rfl rfl) ?_ | refine s_val rfl rfl rfl (r_shl rfl rfl rfl (by omega)) ?_ | refine s_val rfl rfl rfl (r_shr rfl rfl rfl (by omega)) ?_)
      | (refine s_k 35 rfl ?_; (refine s_call Try.func49 (by kernel_rfl) rfl rfl rfl rfl rfl rfl (fun w hL => sz_gt (szHurdleS_any v1 l1 1048576 _ (hl1.below hL.toBelow) (by decide) (by decide)) hn1) ?_))
      | (refine s_k 15 rfl ?_; refine s_val rfl rfl rfl (r_conv tb rfl rfl rfl rfl (wrap_in (by simp only [lo, hi]; omega))) ?_)
      | (refine s_k 14 rfl ?_; first | refine s_val rfl rfl rfl (r_not rfl rfl) ?_ | refine s_val rfl rfl rfl (r_neg rfl rfl (wrap_in (by simp only [lo, hi]; omega))) ?_)
      | (refine s_k 2 rfl ?_; first | refine s_val rfl rfl rfl (r_pick1 rfl rfl (by first | rfl | assumption | (apply dt1; assumption) | (apply dt0; assumption) | (apply nt1; assumption) | (apply nt0; assumption) | (apply ndt1; assumption) | (apply ndt0; assumption) | (apply dt1; omega) | (apply dt0; omega)) rfl) ?_ | refine s_val rfl rfl rfl (r_pick0 rfl rfl (by first | rfl | assumption | (apply dt1; assumption) | (apply dt0; assumption) | (apply nt1; assumption) | (apply nt0; assumption) | (apply ndt1; assumption) | (apply ndt0; assumption) | (apply dt1; omega) | (apply dt0; omega)) rfl) ?_)
      | (refine s_k 25 rfl ?_; first | refine s_val rfl rfl rfl (r_ixN tb rfl rfl rfl rfl (by omega)) ?_ | refine s_val rfl rfl rfl (r_ixA tb rfl rfl rfl rfl (by omega) (by omega)) ?_ | refine s_val rfl rfl rfl (r_ixO tb rfl rfl rfl rfl (by omega)) ?_)
      | (refine s_k 4 rfl ?_; first | refine s_boxA rfl rfl rfl rfl rfl fun blk => ?_ | refine s_box1 rfl rfl rfl rfl rfl rfl fun blk => ?_)
      | (refine s_k 9 rfl ?_; (first | refine s_st1 tb rfl rfl rfl rfl rfl rfl rfl rfl ?_ | refine s_stA tb rfl rfl rfl rfl (by first | rfl | assumption | (apply Pv.size; assumption)) rfl rfl ?_); (first | refine' st0 ?s ?_ | refine' st1 ?s ?_ | refine' st2 ?s ?_ | refine' st3 ?s ?_ | refine' st4 ?s ?_ | refine' st5 ?s ?_ | refine' st6 ?s ?_ | refine' st7 ?s ?_ | refine' st8 ?s ?_ | refine' st9 ?s ?_ | refine' st10 ?s ?_ | refine' st11 ?s ?_); (case s => (first | exact setP zP_pv rfl | exact setP (by assumption) rfl | exact setP (by assumption) (Pv.size (by assumption)) | exact set_whole rfl (by simp [Value.oneCell', Hd.cells, Sp.cells, Sk.cells, Gt.cells]) | exact setl0 rfl | exact setl1 rfl | exact setl2 rfl | exact setl3 rfl | exact setl4 rfl | exact setl5 rfl | exact setl6 rfl | exact setl7 rfl | exact set2_0 rfl rfl | exact set2_2 rfl rfl)))
      | (refine s_k 36 rfl ?_; first | refine s_val rfl rfl rfl (r_len tb rfl rfl rfl) ?_ | refine s_val rfl rfl rfl (r_min rfl rfl rfl) ?_ | refine s_val rfl rfl rfl (r_max rfl rfl rfl) ?_ | refine s_val rfl rfl rfl (r_min3 rfl rfl rfl rfl) ?_)
      | (refine s_k 34 rfl ?_; refine s_val rfl rfl rfl (r_extractL rfl rfl rfl) ?_)
      | (refine s_k 12 rfl ?_; refine s_val rfl rfl rfl (r_nil rfl rfl) ?_)
      | (refine s_k 18 rfl ?_; refine s_val rfl rfl rfl (r_func rfl rfl rfl) ?_)
      | refine s_nil ?_)
      | (refine c_g ?_; first | refine c_seq ?_ | refine c_region ?_ | (refine c_gc ?_; first | refine c_cond1 rfl (by first | rfl | assumption | (apply dt1; assumption) | (apply dt0; assumption) | (apply nt1; assumption) | (apply nt0; assumption) | (apply ndt1; assumption) | (apply ndt0; assumption) | (apply dt1; omega) | (apply dt0; omega)) ?_ | refine c_cond0 rfl (by first | rfl | assumption | (apply dt1; assumption) | (apply dt0; assumption) | (apply nt1; assumption) | (apply nt0; assumption) | (apply ndt1; assumption) | (apply ndt0; assumption) | (apply dt1; omega) | (apply dt0; omega)) ?_ | refine c_condd1 rfl (by omega) ?_ | refine c_condd0 rfl (by omega) ?_ | refine c_conddn1 rfl (by omega) ?_ | refine c_conddn0 rfl (by omega) ?_ | refine c_condd rfl (fun hc => ?_) (fun hc => ?_) | refine c_conddn rfl (fun hc => ?_) (fun hc => ?_) | refine c_condn rfl (fun hc => ?_) (fun hc => ?_) | refine c_cond rfl (fun hc => ?_) (fun hc => ?_)) | refine c_block ?_ | refine c_skip ?_ | refine c_exit ?_ | refine c_ret ?_)
      | (refine e_g ?_; first | refine e_then ?_ | refine e_blkn ?_ | refine e_thenx ?_ | refine e_thenr ?_ | refine e_blkr ?_ | refine e_blkx ?_ | refine e_blky rfl ?_)
      | (refine e_ret1 (by simp) rfl (re_tmp rfl) fun w hL => ⟨rfl, hL.toBelow⟩))
  case pos =>
    refine enter2 Try.func13 rfl rfl rfl (Own.start w) ?_
    repeat' (first
      | (refine s_g ?_; first
      | (refine s_gd rfl ?_; first | refine s_gd1 rfl rfl (by first | rfl | assumption | (apply dt1; assumption) | (apply dt0; assumption) | (apply nt1; assumption) | (apply nt0; assumption) | (apply ndt1; assumption) | (apply ndt0; assumption) | (apply dt1; omega) | (apply dt0; omega)) ?_ | refine s_gd0 rfl rfl rfl (by first | rfl | assumption | (apply dt1; assumption) | (apply dt0; assumption) | (apply nt1; assumption) | (apply nt0; assumption) | (apply ndt1; assumption) | (apply ndt0; assumption) | (apply dt1; omega) | (apply dt0; omega)) ?_ | refine s_gd00 rfl rfl (by first | rfl | assumption | (apply dt1; assumption) | (apply dt0; assumption) | (apply nt1; assumption) | (apply nt0; assumption) | (apply ndt1; assumption) | (apply ndt0; assumption) | (apply dt1; omega) | (apply dt0; omega)) ?_ | refine s_gp1 rfl rfl rfl (fun hc => ?_) (fun hc => ?_) | refine s_gp0 rfl rfl rfl (fun hc => ?_) (fun hc => ?_) | refine s_gnp1 rfl rfl rfl (fun hc => ?_) (fun hc => ?_) | refine s_gnp0 rfl rfl rfl (fun hc => ?_) (fun hc => ?_) | refine s_gb1 rfl rfl rfl (fun hc => ?_) (fun hc => ?_) | refine s_gb0 rfl rfl rfl (fun hc => ?_) (fun hc => ?_) | refine s_gnb1 rfl rfl rfl (fun hc => ?_) (fun hc => ?_) | refine s_gnb0 rfl rfl rfl (fun hc => ?_) (fun hc => ?_))
      | (refine s_k 0 rfl ?_; refine s_val rfl rfl rfl (r_move rfl rfl) ?_)
      | (refine s_k 23 rfl ?_; first | refine s_val rfl rfl rfl (r_field tb rfl rfl rfl) ?_ | refine s_val rfl rfl rfl (r_fieldS tb rfl rfl rfl) ?_)
      | (refine s_k 8 rfl ?_; first | (refine' s_val rfl rfl rfl (r_ldv rfl rfl ?m ?v) ?_; (case m => (first | exact m0 | exact m1 | exact m2 | exact m3 | exact m4 | exact m5 | exact m6 | exact m7 | exact m8 | exact m9 | exact m10 | exact m11)); (case v => (first | exact ldvL tb rfl rfl | exact ldv1 tb rfl (by assumption) | exact ldvW tb rfl rfl | exact ldvW tb rfl (by assumption) | exact ldvW tb rfl (Pv.size (by assumption)) | exact ldvN tb rfl ext2_0 rfl | exact ldvN tb rfl ext2_2 rfl))) | (refine' s_val rfl rfl rfl (r_ldo rfl rfl ?w (by simp) ?v) ?_; (case w => assumption); (case v => (first | exact ldvL tb rfl rfl | exact ldv1 tb rfl (by assumption) | exact ldvW tb rfl rfl | exact ldvW tb rfl (by assumption) | exact ldvW tb rfl (Pv.size (by assumption)) | exact ldvN tb rfl ext2_0 rfl | exact ldvN tb rfl ext2_2 rfl))) | (refine' s_val rfl rfl rfl (r_ldk ?k rfl rfl ?m ?v) ?_; (case k => assumption); (case m => (first | exact m0 | exact m1 | exact m2 | exact m3 | exact m4 | exact m5 | exact m6 | exact m7 | exact m8 | exact m9 | exact m10 | exact m11)); (case v => (first | exact ldvL tb rfl rfl | exact ldv1 tb rfl (by assumption) | exact ldvW tb rfl rfl | exact ldvW tb rfl (by assumption) | exact ldvW tb rfl (Pv.size (by assumption)) | exact ldvN tb rfl ext2_0 rfl | exact ldvN tb rfl ext2_2 rfl))))
      | (refine s_k 1 rfl ?_; refine s_val rfl rfl rfl (r_assign rfl rfl) ?_)
      | (refine s_k 13 rfl ?_; first | refine s_val rfl rfl rfl (r_lss rfl rfl rfl) ?_ | refine s_val rfl rfl rfl (r_eql rfl rfl rfl) ?_ | refine s_val rfl rfl rfl (r_neq rfl rfl rfl) ?_ | refine s_val rfl rfl rfl (r_add rfl rfl rfl (wrap_in (by simp only [lo, hi]; omega))) ?_ | refine s_val rfl rfl rfl (r_sub rfl rfl rfl (wrap_in (by simp only [lo, hi]; omega))) ?_ | refine s_val rfl rfl rfl (r_leq rfl rfl rfl) ?_ | refine s_val rfl rfl rfl (r_gtr rfl rfl rfl) ?_ | refine s_val rfl rfl rfl (r_geq rfl rfl rfl) ?_ | refine s_val rfl rfl rfl (r_mul rfl rfl rfl (wrap_in (by simp only [lo, hi]; omega))) ?_ | refine s_val rfl rfl rfl (r_and rfl rfl rfl) ?_ | refine s_val rfl rfl rfl (r_or rfl rfl rfl) ?_ | refine s_val rfl rfl rfl (r_an rfl rfl rfl) ?_ | refine s_val rfl rfl rfl (r_shl rfl rfl rfl (by omega)) ?_ | refine s_val rfl rfl rfl (r_shr rfl rfl rfl (by omega)) ?_)
      | (refine s_k 35 rfl ?_; first | (refine s_call Try.func49 (by kernel_rfl) rfl rfl rfl rfl rfl rfl (fun w hL => sz_le (szHurdleS_any v1 l1 1048576 _ (hl1.below hL.toBelow) (by decide) (by decide)) hn1) ?_) | (refine s_call Try.func24 (by kernel_rfl) rfl rfl rfl rfl rfl rfl (fun w hL => toPasture_any p0 c0 _ hp0) ?_) | (refine s_call Try.func50 (by kernel_rfl) rfl rfl rfl rfl rfl rfl (fun w hL => spec_sl hp0 (hU.below hL.toBelow) ho1 hc') ?_) | (refine s_call Try.func52 (by kernel_rfl) rfl rfl rfl rfl rfl rfl (fun w hL => impl_sl hp0 (hU.below hL.toBelow) ho1 hc') ?_) | (refine s_call Try.func44 (by kernel_rfl) rfl rfl rfl rfl rfl rfl (fun w hL => eqPasture_same _ c' _ hc') ?_) | (refine s_call Try.func53 (by kernel_rfl) rfl rfl rfl rfl rfl rfl (fun w hL => eqHurdleS_same _ _ l1 _ (hX.below hL.toBelow) (hU.below hL.toBelow) hn1) ?_) | (refine s_callE Try.func51 (by kernel_rfl) rfl rfl rfl rfl rfl rfl (fun w hL => toHurdleS_any v1 l1 _ (hl1.below hL.toBelow) hn1) fun u w1 hL1 hU => ?_; have hX := hU; (try have hX := hU0.below hL1.toBelow); have hU0 := hU; have hl1 := hl1.below hL1.toBelow; have hK := hK.base hL1; have hB := hB.trans (hL1.toBelow.mono hB.size)))
      | (refine s_k 15 rfl ?_; refine s_val rfl rfl rfl (r_conv tb rfl rfl rfl rfl (wrap_in (by simp only [lo, hi]; omega))) ?_)
      | (refine s_k 14 rfl ?_; first | refine s_val rfl rfl rfl (r_not rfl rfl) ?_ | refine s_val rfl rfl rfl (r_neg rfl rfl (wrap_in (by simp only [lo, hi]; omega))) ?_)
      | (refine s_k 2 rfl ?_; first | refine s_val rfl rfl rfl (r_pick1 rfl rfl (by first | rfl | assumption | (apply dt1; assumption) | (apply dt0; assumption) | (apply nt1; assumption) | (apply nt0; assumption) | (apply ndt1; assumption) | (apply ndt0; assumption) | (apply dt1; omega) | (apply dt0; omega)) rfl) ?_ | refine s_val rfl rfl rfl (r_pick0 rfl rfl (by first | rfl | assumption | (apply dt1; assumption) | (apply dt0; assumption) | (apply nt1; assumption) | (apply nt0; assumption) | (apply ndt1; assumption) | (apply ndt0; assumption) | (apply dt1; omega) | (apply dt0; omega)) rfl) ?_)
      | (refine s_k 25 rfl ?_; first | refine s_val rfl rfl rfl (r_ixN tb rfl rfl rfl rfl (by omega)) ?_ | refine s_val rfl rfl rfl (r_ixA tb rfl rfl rfl rfl (by omega) (by omega)) ?_ | refine s_val rfl rfl rfl (r_ixO tb rfl rfl rfl rfl (by omega)) ?_)
      | (refine s_k 4 rfl ?_; first | refine s_boxA rfl rfl rfl rfl rfl fun blk => ?_ | refine s_box1 rfl rfl rfl rfl rfl rfl fun blk => ?_)
      | (refine s_k 9 rfl ?_; (first | refine s_st1 tb rfl rfl rfl rfl rfl rfl rfl rfl ?_ | refine s_stA tb rfl rfl rfl rfl (by first | rfl | assumption | (apply Pv.size; assumption)) rfl rfl ?_); (first | refine' st0 ?s ?_ | refine' st1 ?s ?_ | refine' st2 ?s ?_ | refine' st3 ?s ?_ | refine' st4 ?s ?_ | refine' st5 ?s ?_ | refine' st6 ?s ?_ | refine' st7 ?s ?_ | refine' st8 ?s ?_ | refine' st9 ?s ?_ | refine' st10 ?s ?_ | refine' st11 ?s ?_); (case s => (first | exact setP zP_pv rfl | exact setP (by assumption) rfl | exact setP (by assumption) (Pv.size (by assumption)) | exact set_whole rfl (by simp [Value.oneCell', Hd.cells, Sp.cells, Sk.cells, Gt.cells]) | exact setl0 rfl | exact setl1 rfl | exact setl2 rfl | exact setl3 rfl | exact setl4 rfl | exact setl5 rfl | exact setl6 rfl | exact setl7 rfl | exact set2_0 rfl rfl | exact set2_2 rfl rfl)))
      | (refine s_k 3 rfl ?_; refine s_allocA (t := 43) rfl zImplPas rfl rfl rfl fun blk => ?_)
      | (refine s_k 36 rfl ?_; first | refine s_val rfl rfl rfl (r_len tb rfl rfl rfl) ?_ | refine s_val rfl rfl rfl (r_min rfl rfl rfl) ?_ | refine s_val rfl rfl rfl (r_max rfl rfl rfl) ?_ | refine s_val rfl rfl rfl (r_min3 rfl rfl rfl rfl) ?_)
      | (refine s_k 34 rfl ?_; refine s_val rfl rfl rfl (r_extractL rfl rfl rfl) ?_)
      | (refine s_k 12 rfl ?_; refine s_val rfl rfl rfl (r_nil rfl rfl) ?_)
      | (refine s_k 18 rfl ?_; refine s_val rfl rfl rfl (r_func rfl rfl rfl) ?_)
      | refine s_nil ?_)
      | (refine c_g ?_; first | refine c_seq ?_ | refine c_region ?_ | (refine c_gc ?_; first | refine c_cond1 rfl (by first | rfl | assumption | (apply dt1; assumption) | (apply dt0; assumption) | (apply nt1; assumption) | (apply nt0; assumption) | (apply ndt1; assumption) | (apply ndt0; assumption) | (apply dt1; omega) | (apply dt0; omega)) ?_ | refine c_cond0 rfl (by first | rfl | assumption | (apply dt1; assumption) | (apply dt0; assumption) | (apply nt1; assumption) | (apply nt0; assumption) | (apply ndt1; assumption) | (apply ndt0; assumption) | (apply dt1; omega) | (apply dt0; omega)) ?_ | refine c_condd1 rfl (by omega) ?_ | refine c_condd0 rfl (by omega) ?_ | refine c_conddn1 rfl (by omega) ?_ | refine c_conddn0 rfl (by omega) ?_ | refine c_condd rfl (fun hc => ?_) (fun hc => ?_) | refine c_conddn rfl (fun hc => ?_) (fun hc => ?_) | refine c_condn rfl (fun hc => ?_) (fun hc => ?_) | refine c_cond rfl (fun hc => ?_) (fun hc => ?_)) | refine c_block ?_ | refine c_skip ?_ | refine c_exit ?_ | refine c_ret ?_)
      | (refine e_g ?_; first | refine e_then ?_ | refine e_blkn ?_ | refine e_thenx ?_ | refine e_thenr ?_ | refine e_blkr ?_ | refine e_blkx ?_ | refine e_blky rfl ?_)
      | (refine e_ret1 (by simp) rfl (re_tmp rfl) fun w hL => ⟨rfl, hB.trans (hL.toBelow.mono hB.size)⟩))
namespace FnExactAddHurdlesRow
open Go.ChangeShapes Go.WideShapes Go.ChangeAt Go.RowKit
theorem own : ownKnob Try.prog.godebug = none := by kernel_rfl
theorem laidOut : laidOutB Try.prog = true := by kernel_rfl
set_option maxRecDepth 100000 in
set_option maxHeartbeats 1000000 in
theorem lifted (os : Os) (started : os.Started) (H : Type) (enc : TypeId × Value → H) :
    ReturnsInHanded {} Try.checked os 13 .any (Rows.fnExactAddHurdlesSpec.pre6 enc Try.prog Try.f13 Rows.fnExactAddHurdlesRow.domain false) (Rows.fnExactAddHurdlesSpec.post enc Try.prog Try.f13 false true false false) := by
  refine returnsInHanded_of_change (C := Try.checked) own started (by kernel_rfl) Try.func13
    (ChangeSpec.witness6 (enc := enc) (C := Try.checked) false ⟨#[], #[.agg zP, .slice none 0 0], []⟩ 8 (by kernel_rfl) (by kernel_rfl) (by kernel_rfl) (by kernel_rfl)) ?_
  intro W base args ds gs before hval0 hW hcnd _
  have hval : ∀ (j : Nat) t v, Try.f13.params[j]? = some t → args[j]? = some v → Value.okWide Try.prog W .any base t v := hval0
  have hW' := hW
  obtain ⟨p, q, hA0, hV, rfl, hfz, hnd⟩ := hW
  have hA : DataW.TrodAll enc Try.prog W 0 (fun _ => true) true Try.f13.params.toList args.toList ds p := hA0
  rw [Try.params13] at hA hval
  obtain ⟨v0, vs0, d0, ds0, p0, q0, hargs, rfl, rfl, h0, r0⟩ := trodAll_cons hA
  obtain ⟨v1, vs1, d1, ds1, p1, q1, rfl, rfl, rfl, h1, r1⟩ := trodAll_cons r0
  obtain ⟨rfl, rfl, rfl⟩ := trodAll_nil r1
  obtain rfl : args = #[v0, v1] := by cases args; simp_all
  obtain ⟨rfl, rfl⟩ := trodVars_none hV
  have k0 := h0
  have lt0 : ∀ x ∈ p0, x.block < W.heap.size := by obtain ⟨m, hm⟩ := k0; exact DataW.trod_lt m _ _ _ hm
  have k1 := h1
  have lt1 : ∀ x ∈ p1, x.block < W.heap.size := by obtain ⟨m, hm⟩ := k1; exact DataW.trod_lt m _ _ _ hm
  obtain ⟨c0, rfl, hs0, hf0⟩ := open_flat (n := 5) (ks := pasK) (by kernel_rfl) (by kernel_rfl) (by kernel_rfl) (hval 0 _ v0 rfl rfl) h0
  obtain ⟨p0', hp0⟩ := pv_of_flat hs0 hf0
  obtain ⟨xs1, hl1, hf1⟩ := open_flat_slice (n := 5) (ks := hdK) Try.underlying77 (by kernel_rfl) (by kernel_rfl) (by decide) (hval 1 _ v1 rfl rfl) h1
  obtain ⟨l1, rfl, ho1⟩ := list_of_cells (f := Hd.cells) (p := Hd.ok) xs1 (fun c hc => by
    obtain ⟨hcl, _⟩ := sl_elem hl1 c hc
    exact hd_of_flat hcl (hf1 c hc))
  clear hA0 hval0
  refine (FnExactAddHurdles_walk p0' c0 v1 l1 W hp0 hl1 ho1).mono fun e W' ⟨he, bel⟩ => ?_
  subst he
  exact ⟨_, rfl, _, _, _, [], _, [], hW', trodAll_mk1 (shut_bool Try.underlying4 _), (trodAll_cons_mk (Below.trod laidOut (by kernel_rfl) (of_decide_eq_true (by kernel_rfl)) k0 bel lt0) (trodAll_cons_mk (Below.trod laidOut (by kernel_rfl) (of_decide_eq_true (by kernel_rfl)) k1 bel lt1) trodAll_mk0)), rfl, bel.frame _, fun h => by cases h⟩
theorem over : Rows.fnExactAddHurdlesRow.holds Try.pinned (OpenSpec.ofChange Rows.fnExactAddHurdlesSpec) :=
  OpenClaim.holds_of_wide 13 Try.f13 rfl rfl rfl rfl rfl rfl rfl ⟨rfl, rfl, rfl, rfl, rfl⟩ rfl rfl rfl rfl rfl (by kernel_rfl) Try.func13 (by kernel_rfl)
    (of_decide_eq_true (by kernel_rfl)) (by unfold Func.isWrapper; first | (rw [if_pos (by decide +kernel)]; kernel_rfl) | (rw [if_neg (by decide +kernel)]; exact ⟨rfl, rfl⟩))
    (fun os started H enc _ => lifted os started H enc)
end FnExactAddHurdlesRow
theorem fnExactAddHurdles_holds : Rows.FnExactAddHurdlesSaid := FnExactAddHurdlesRow.over
#print axioms fnExactAddHurdles_holds
end Go.Proofs.Ytjflellnbafbaaa
