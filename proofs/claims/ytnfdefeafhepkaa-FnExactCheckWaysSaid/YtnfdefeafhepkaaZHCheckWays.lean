/- CheckWays: the program's and the reference's return the same, for all arguments: no condition. -/
import Derived.Test.YtnfdefeafhepkaaQH13
import Derived.Test.YtnfdefeafhepkaaQH19
import Derived.Test.YtnfdefeafhepkaaQH35
namespace Go.Proofs.Ytnfdefeafhepkaa
set_option linter.unusedVariables false
set_option linter.unusedSimpArgs false
open Go.RowKit Mem Wk
attribute [local irreducible] Calls Wk.S Wk.C Wk.E Wk.X Wk.T Wk.Y Calm.wpLex CalmB.wpLex
set_option maxRecDepth 100000 in
set_option maxHeartbeats 1600000 in
theorem FnExactCheckWays_walk (p0 : Nat → Int) (c0 : Array Value) (v1 : Value) (l1 : List Sp) (v2 : Value) (l2 : List Sp) (v3 : Value) (S3 : List (List Sp)) (w : World) (hp0 : Pv p0 c0) (hl1 : Sl w 2 v1 (l1.map Sp.cells)) (ho1 : ∀ s ∈ l1, s.ok) (hl2 : Sl w 2 v2 (l2.map Sp.cells)) (ho2 : ∀ s ∈ l2, s.ok) (hl3 : SlSS w v3 S3) (ho3 : ∀ l ∈ S3, ∀ s ∈ l, s.ok) :
    Calls Try.prog 3 #[.agg c0, v1, v2, v3] w fun e w' => e = .returned (.bool true) ∧ Below w.heap.size w w' := by
  have hsz := hp0.size
  by_cases hn1 : (l1.length : Int) ≤ 1048576
  case neg =>
    refine enter4 Try.func3 rfl rfl rfl (Own.start w) ?_
    repeat' (first
      | (refine s_g ?_; first
      | (refine s_gd rfl ?_; first | refine s_gd1 rfl rfl zTr ?_ | refine s_gd0 rfl rfl rfl zTr ?_ | refine s_gd00 rfl rfl zTr ?_ | refine s_gp1 rfl rfl rfl (fun hc => ?_) (fun hc => ?_) | refine s_gp0 rfl rfl rfl (fun hc => ?_) (fun hc => ?_) | refine s_gnp1 rfl rfl rfl (fun hc => ?_) (fun hc => ?_) | refine s_gnp0 rfl rfl rfl (fun hc => ?_) (fun hc => ?_) | refine s_gb1 rfl rfl rfl (fun hc => ?_) (fun hc => ?_) | refine s_gb0 rfl rfl rfl (fun hc => ?_) (fun hc => ?_) | refine s_gnb1 rfl rfl rfl (fun hc => ?_) (fun hc => ?_) | refine s_gnb0 rfl rfl rfl (fun hc => ?_) (fun hc => ?_))
      | (refine s_k 0 rfl ?_; refine s_val rfl rfl rfl (r_move rfl rfl) ?_)
      | (refine s_k 8 rfl ?_; first | (refine' s_val rfl rfl rfl (r_ldv rfl rfl ?qm ?qv) ?_; (case qm => (exact zMm)); (case qv => (exact zLe))) | (refine' s_val rfl rfl rfl (r_ldo rfl rfl ?qw (by simp) ?qv) ?_; (case qw => assumption); (case qv => (exact zLe))))
      | (refine s_k 1 rfl ?_; refine s_val rfl rfl rfl (r_assign rfl rfl) ?_)
      | (refine s_k 13 rfl ?_; first | refine s_val rfl rfl rfl (r_lss rfl rfl rfl) ?_ | refine s_val rfl rfl rfl (r_neq rfl rfl rfl) ?_)
      | (refine s_k 35 rfl ?_; (refine s_call Try.func6 (by kernel_rfl) rfl rfl rfl rfl rfl rfl (fun w hL => szg (szSpotS_any v1 l1 1048576 _ (hl1.below hL.toBelow) (by decide) (by decide)) hn1) ?_))
      | (refine s_k 14 rfl ?_; refine s_val rfl rfl rfl (r_not rfl rfl) ?_)
      | (refine s_k 2 rfl ?_; first | refine s_val rfl rfl rfl (r_pick1 rfl rfl zTr rfl) ?_ | refine s_val rfl rfl rfl (r_pick0 rfl rfl zTr rfl) ?_)
      | (refine s_k 4 rfl ?_; first | refine s_boxA rfl rfl rfl rfl rfl fun blk => ?_ | refine s_box1 rfl rfl rfl rfl rfl rfl fun blk => ?_)
      | (refine s_k 34 rfl ?_; refine s_val rfl rfl rfl (r_extractL rfl rfl rfl) ?_)
      | refine s_nil ?_)
      | (refine c_g ?_; first | refine c_seq ?_ | refine c_region ?_ | (refine c_gc ?_; first | refine c_cond1 rfl zTr ?_ | refine c_cond0 rfl zTr ?_ | refine z_condd1 rfl ?_ | refine z_condd0 rfl ?_ | refine z_conddn1 rfl ?_ | refine z_conddn0 rfl ?_ | refine c_condd rfl (fun hc => ?_) (fun hc => ?_) | refine c_conddn rfl (fun hc => ?_) (fun hc => ?_) | refine c_condn rfl (fun hc => ?_) (fun hc => ?_) | refine c_cond rfl (fun hc => ?_) (fun hc => ?_)) | refine c_block ?_ | refine c_skip ?_ | refine c_exit ?_ | refine c_ret ?_)
      | (refine e_g ?_; first | refine e_then ?_ | refine e_blkn ?_ | refine e_thenx ?_ | refine e_thenr ?_ | refine e_blkr ?_ | refine e_blkx ?_ | refine e_blky rfl ?_)
      | (refine e_ret1 (by simp) rfl (re_tmp rfl) fun w hL => ⟨rfl, hL.toBelow⟩))
  case pos =>
  by_cases hn2 : (l2.length : Int) ≤ 1048576 - l1.length
  case neg =>
    refine enter4 Try.func3 rfl rfl rfl (Own.start w) ?_
    repeat' (first
      | (refine s_g ?_; first
      | (refine s_gd rfl ?_; first | refine s_gd1 rfl rfl zTr ?_ | refine s_gd0 rfl rfl rfl zTr ?_ | refine s_gd00 rfl rfl zTr ?_ | refine s_gp1 rfl rfl rfl (fun hc => ?_) (fun hc => ?_) | refine s_gp0 rfl rfl rfl (fun hc => ?_) (fun hc => ?_) | refine s_gnp1 rfl rfl rfl (fun hc => ?_) (fun hc => ?_) | refine s_gnp0 rfl rfl rfl (fun hc => ?_) (fun hc => ?_) | refine s_gb1 rfl rfl rfl (fun hc => ?_) (fun hc => ?_) | refine s_gb0 rfl rfl rfl (fun hc => ?_) (fun hc => ?_) | refine s_gnb1 rfl rfl rfl (fun hc => ?_) (fun hc => ?_) | refine s_gnb0 rfl rfl rfl (fun hc => ?_) (fun hc => ?_))
      | (refine s_k 0 rfl ?_; refine s_val rfl rfl rfl (r_move rfl rfl) ?_)
      | (refine s_k 8 rfl ?_; first | (refine' s_val rfl rfl rfl (r_ldv rfl rfl ?qm ?qv) ?_; (case qm => (exact zMm)); (case qv => (exact zLe))) | (refine' s_val rfl rfl rfl (r_ldo rfl rfl ?qw (by simp) ?qv) ?_; (case qw => assumption); (case qv => (exact zLe))))
      | (refine s_k 1 rfl ?_; refine s_val rfl rfl rfl (r_assign rfl rfl) ?_)
      | (refine s_k 13 rfl ?_; first | refine s_val rfl rfl rfl (r_lss rfl rfl rfl) ?_ | refine s_val rfl rfl rfl (r_neq rfl rfl rfl) ?_)
      | (refine s_k 35 rfl ?_; first | (refine s_call Try.func6 (by kernel_rfl) rfl rfl rfl rfl rfl rfl (fun w hL => szl (szSpotS_any v1 l1 1048576 _ (hl1.below hL.toBelow) (by decide) (by decide)) hn1) ?_) | (refine s_call Try.func6 (by kernel_rfl) rfl rfl rfl rfl rfl rfl (fun w hL => szg (szSpotS_any v2 l2 (1048576 - l1.length) _ (hl2.below hL.toBelow) (by omega) (by omega)) hn2) ?_))
      | (refine s_k 14 rfl ?_; refine s_val rfl rfl rfl (r_not rfl rfl) ?_)
      | (refine s_k 2 rfl ?_; first | refine s_val rfl rfl rfl (r_pick1 rfl rfl zTr rfl) ?_ | refine s_val rfl rfl rfl (r_pick0 rfl rfl zTr rfl) ?_)
      | (refine s_k 4 rfl ?_; first | refine s_boxA rfl rfl rfl rfl rfl fun blk => ?_ | refine s_box1 rfl rfl rfl rfl rfl rfl fun blk => ?_)
      | (refine s_k 34 rfl ?_; refine s_val rfl rfl rfl (r_extractL rfl rfl rfl) ?_)
      | refine s_nil ?_)
      | (refine c_g ?_; first | refine c_seq ?_ | refine c_region ?_ | (refine c_gc ?_; first | refine c_cond1 rfl zTr ?_ | refine c_cond0 rfl zTr ?_ | refine z_condd1 rfl ?_ | refine z_condd0 rfl ?_ | refine z_conddn1 rfl ?_ | refine z_conddn0 rfl ?_ | refine c_condd rfl (fun hc => ?_) (fun hc => ?_) | refine c_conddn rfl (fun hc => ?_) (fun hc => ?_) | refine c_condn rfl (fun hc => ?_) (fun hc => ?_) | refine c_cond rfl (fun hc => ?_) (fun hc => ?_)) | refine c_block ?_ | refine c_skip ?_ | refine c_exit ?_ | refine c_ret ?_)
      | (refine e_g ?_; first | refine e_then ?_ | refine e_blkn ?_ | refine e_thenx ?_ | refine e_thenr ?_ | refine e_blkr ?_ | refine e_blkx ?_ | refine e_blky rfl ?_)
      | (refine e_ret1 (by simp) rfl (re_tmp rfl) fun w hL => ⟨rfl, hL.toBelow⟩))
  case pos =>
  have hz := fun w h => szSpotSS_any v3 S3 (1048576 - l1.length - l2.length) w h (by omega) (by omega)
  by_cases hn3 : (ssN S3 : Int) ≤ 1048576 - l1.length - l2.length
  case neg =>
    rw [if_neg hn3] at hz
    refine enter4 Try.func3 rfl rfl rfl (Own.start w) ?_
    repeat' (first
      | (refine s_g ?_; first
      | (refine s_gd rfl ?_; first | refine s_gd1 rfl rfl zTr ?_ | refine s_gd0 rfl rfl rfl zTr ?_ | refine s_gd00 rfl rfl zTr ?_ | refine s_gp1 rfl rfl rfl (fun hc => ?_) (fun hc => ?_) | refine s_gp0 rfl rfl rfl (fun hc => ?_) (fun hc => ?_) | refine s_gnp1 rfl rfl rfl (fun hc => ?_) (fun hc => ?_) | refine s_gnp0 rfl rfl rfl (fun hc => ?_) (fun hc => ?_) | refine s_gb1 rfl rfl rfl (fun hc => ?_) (fun hc => ?_) | refine s_gb0 rfl rfl rfl (fun hc => ?_) (fun hc => ?_) | refine s_gnb1 rfl rfl rfl (fun hc => ?_) (fun hc => ?_) | refine s_gnb0 rfl rfl rfl (fun hc => ?_) (fun hc => ?_))
      | (refine s_k 0 rfl ?_; refine s_val rfl rfl rfl (r_move rfl rfl) ?_)
      | (refine s_k 8 rfl ?_; first | (refine' s_val rfl rfl rfl (r_ldv rfl rfl ?qm ?qv) ?_; (case qm => (exact zMm)); (case qv => (exact zLe))) | (refine' s_val rfl rfl rfl (r_ldo rfl rfl ?qw (by simp) ?qv) ?_; (case qw => assumption); (case qv => (exact zLe))))
      | (refine s_k 1 rfl ?_; refine s_val rfl rfl rfl (r_assign rfl rfl) ?_)
      | (refine s_k 13 rfl ?_; first | refine s_val rfl rfl rfl (r_lss rfl rfl rfl) ?_ | refine s_val rfl rfl rfl (r_neq rfl rfl rfl) ?_)
      | (refine s_k 35 rfl ?_; first | (refine s_call Try.func6 (by kernel_rfl) rfl rfl rfl rfl rfl rfl (fun w hL => szl (szSpotS_any v1 l1 1048576 _ (hl1.below hL.toBelow) (by decide) (by decide)) hn1) ?_) | (refine s_call Try.func6 (by kernel_rfl) rfl rfl rfl rfl rfl rfl (fun w hL => szl (szSpotS_any v2 l2 (1048576 - l1.length) _ (hl2.below hL.toBelow) (by omega) (by omega)) hn2) ?_) | (refine s_call Try.func7 (by kernel_rfl) rfl rfl rfl rfl rfl rfl (fun w hL => hz _ (hl3.below hL.toBelow)) ?_))
      | (refine s_k 14 rfl ?_; refine s_val rfl rfl rfl (r_not rfl rfl) ?_)
      | (refine s_k 2 rfl ?_; first | refine s_val rfl rfl rfl (r_pick1 rfl rfl zTr rfl) ?_ | refine s_val rfl rfl rfl (r_pick0 rfl rfl zTr rfl) ?_)
      | (refine s_k 4 rfl ?_; first | refine s_boxA rfl rfl rfl rfl rfl fun blk => ?_ | refine s_box1 rfl rfl rfl rfl rfl rfl fun blk => ?_)
      | (refine s_k 34 rfl ?_; refine s_val rfl rfl rfl (r_extractL rfl rfl rfl) ?_)
      | refine s_nil ?_)
      | (refine c_g ?_; first | refine c_seq ?_ | refine c_region ?_ | (refine c_gc ?_; first | refine c_cond1 rfl zTr ?_ | refine c_cond0 rfl zTr ?_ | refine z_condd1 rfl ?_ | refine z_condd0 rfl ?_ | refine z_conddn1 rfl ?_ | refine z_conddn0 rfl ?_ | refine c_condd rfl (fun hc => ?_) (fun hc => ?_) | refine c_conddn rfl (fun hc => ?_) (fun hc => ?_) | refine c_condn rfl (fun hc => ?_) (fun hc => ?_) | refine c_cond rfl (fun hc => ?_) (fun hc => ?_)) | refine c_block ?_ | refine c_skip ?_ | refine c_exit ?_ | refine c_ret ?_)
      | (refine e_g ?_; first | refine e_then ?_ | refine e_blkn ?_ | refine e_thenx ?_ | refine e_thenr ?_ | refine e_blkr ?_ | refine e_blkx ?_ | refine e_blky rfl ?_)
      | (refine e_ret1 (by simp) rfl (re_tmp rfl) fun w hL => ⟨rfl, hL.toBelow⟩))
  case pos =>
    have hm1 : l1.length ≤ 1048576 := by omega
    have hm2 : l2.length ≤ 1048576 := by omega
    have hm3 : S3.length ≤ 1048576 := by unfold ssN at hn3; omega
    have hnn : ∀ s ∈ S3, s.length ≤ 1048576 := fun s hs => by
      have := (List.sublist_flatten_of_mem hs).length_le
      unfold ssN at hn3; omega
    have hspec := fun (w : World) ga na capa gb nb capb cura curb vl hAa hga hAb hgb hUl => specWays_any p0 c0 l1 l2 S3 ga na capa gb nb capb cura curb vl w hp0 hAa hga hAb hgb hUl hm1 hm2 hm3 hnn ho1 ho2 ho3
    have himpl := fun (w : World) ga na capa gb nb capb g cap cura curb cur items hAa hga hAb hgb hA hI hg hit => implWays_any p0 c0 l1 l2 S3 ga na capa gb nb capb g cap cura curb cur items w hp0 hAa hga hAb hgb hA hI hg hit (by omega) ho1 ho2 ho3
    generalize wsV p0 l1 l2 S3 = B at *
    generalize wsC p0 l1 l2 S3 = c at *
    have e2 : c = c := rfl
    clear hz
    obtain ⟨A1, cap1, rfl, _, _, hS1⟩ := hl1.open
    obtain ⟨A2, cap2, rfl, _, _, hS2⟩ := hl2.open
    have hl3c := hl3
    obtain ⟨V3, hV3, hVl3, hin3⟩ := hl3c
    obtain ⟨A3, cap3, rfl, _, _, hS3⟩ := hV3.open
    rw [List.length_map] at hl1 hl2 hl3 ⊢
    rw [List.length_map, List.length_map]
    have hz := fun w h => szSpotSS_any (.slice A3 V3.length cap3) S3 (1048576 - l1.length - l2.length) w h (by omega) (by omega)
    rw [if_pos hn3] at hz
    cases B
    all_goals
      refine enter4 Try.func3 rfl rfl rfl (Own.start w) ?_
      repeat' (first
        | (refine s_g ?_; first
      | (refine s_gd rfl ?_; first | refine s_gd1 rfl rfl zTr ?_ | refine s_gd0 rfl rfl rfl zTr ?_ | refine s_gd00 rfl rfl zTr ?_ | refine s_gp1 rfl rfl rfl (fun hc => ?_) (fun hc => ?_) | refine s_gp0 rfl rfl rfl (fun hc => ?_) (fun hc => ?_) | refine s_gnp1 rfl rfl rfl (fun hc => ?_) (fun hc => ?_) | refine s_gnp0 rfl rfl rfl (fun hc => ?_) (fun hc => ?_) | refine s_gb1 rfl rfl rfl (fun hc => ?_) (fun hc => ?_) | refine s_gb0 rfl rfl rfl (fun hc => ?_) (fun hc => ?_) | refine s_gnb1 rfl rfl rfl (fun hc => ?_) (fun hc => ?_) | refine s_gnb0 rfl rfl rfl (fun hc => ?_) (fun hc => ?_))
      | (refine s_k 0 rfl ?_; refine s_val rfl rfl rfl (r_move rfl rfl) ?_)
      | (refine s_k 8 rfl ?_; first | (refine' s_val rfl rfl rfl (r_ldv rfl rfl ?qm ?qv) ?_; (case qm => (exact zMm)); (case qv => (exact zLe))) | (refine' s_val rfl rfl rfl (r_ldo rfl rfl ?qw (by simp) ?qv) ?_; (case qw => assumption); (case qv => (exact zLe))))
      | (refine s_k 1 rfl ?_; refine s_val rfl rfl rfl (r_assign rfl rfl) ?_)
      | (refine s_k 13 rfl ?_; first | refine s_val rfl rfl rfl (r_neqB rfl rfl rfl) ?_ | refine s_val rfl rfl rfl (r_lss rfl rfl rfl) ?_ | refine s_val rfl rfl rfl (r_neq rfl rfl rfl) ?_)
      | (refine s_k 35 rfl ?_; first | (refine s_call Try.func6 (by kernel_rfl) rfl rfl rfl rfl rfl rfl (fun w hL => szl (szSpotS_any _ l1 1048576 _ (hl1.below hL.toBelow) (by decide) (by decide)) hn1) ?_) | (refine s_call Try.func6 (by kernel_rfl) rfl rfl rfl rfl rfl rfl (fun w hL => szl (szSpotS_any _ l2 (1048576 - l1.length) _ (hl2.below hL.toBelow) (by omega) (by omega)) hn2) ?_) | (refine s_call Try.func7 (by kernel_rfl) rfl rfl rfl rfl rfl rfl (fun w hL => hz _ (hl3.below hL.toBelow)) ?_) | (refine s_call Try.func9 (by kernel_rfl) rfl rfl rfl rfl rfl rfl (fun w hL => toPasture_any p0 c0 _ hp0) ?_) | (refine s_call Try.func8 (by kernel_rfl) rfl rfl rfl rfl rfl rfl (fun w hL => hspec w _ _ _ _ _ _ _ _ _ hA1 (hL.at_ m2) hA2 (hL.at_ m1) (itSS hA3 hI3 (hL.at_ m0) (fun i hi => hL.at_ (by simp only [List.mem_cons, List.mem_append, itR_mem hi, or_true, true_or])))) ?_) | (refine s_call Try.func12 (by kernel_rfl) rfl rfl rfl rfl rfl rfl (fun w hL => himpl w _ _ _ _ _ _ _ _ _ _ _ _ hA1 (hL.at_ m2) hA2 (hL.at_ m1) hA3 hI3 (hL.at_ m0) (fun i hi => hL.at_ (by simp only [List.mem_cons, List.mem_append, itR_mem hi, or_true, true_or]))) ?_) | (refine s_call Try.func13 (by kernel_rfl) rfl rfl rfl rfl rfl rfl (fun w hL => eqSpotS_same _ _ l1 _ (hA1p.toSl (lenSp l1) (by omega) (hL.at_ m3)) (hA1.toSl (lenSp l1) (by omega) (hL.at_ m0)) hm1) ?_) | (refine s_call Try.func13 (by kernel_rfl) rfl rfl rfl rfl rfl rfl (fun w hL => eqSpotS_same _ _ l2 _ (hA2p.toSl (lenSp l2) (by omega) (hL.at_ m3)) (hA2.toSl (lenSp l2) (by omega) (hL.at_ m0)) hm2) ?_) | (refine s_call Try.func14 (by kernel_rfl) rfl rfl rfl rfl rfl rfl (fun w hL => eqSpotSS_same _ _ S3 w (itSS hA3p hI3p (hL.at_ m3) (fun i hi => hL.at_ (by simp only [List.mem_cons, List.mem_append, itR_mem hi, or_true, true_or]))) (itSS hA3 hI3 (hL.at_ m0) (fun i hi => hL.at_ (by simp only [List.mem_cons, List.mem_append, itR_mem hi, or_true, true_or]))) hm3 hnn) ?_) | (refine s_callN Try.func10 (by kernel_rfl) rfl rfl rfl rfl rfl rfl (fun w hL => toSpotS_new l1 A1 cap1 w (hS1.at_ hL) hm1) fun g k cap cur hA => ?_; (try have hA1p := hA1); have hA1 := hA) | (refine s_callN Try.func10 (by kernel_rfl) rfl rfl rfl rfl rfl rfl (fun w hL => toSpotS_new l2 A2 cap2 w (hS2.at_ hL) hm2) fun g k cap cur hA => ?_; (try have hA2p := hA2); have hA2 := hA) | (refine s_callSS (S := S3) Try.func11 (by kernel_rfl) rfl rfl rfl rfl rfl rfl (fun w hL => toSpotSS_new S3 V3 A3 cap3 w (hS3.at_ hL) hVl3 (fun k s u hs hu => (hin3 k s u hs hu).below hL.toBelow) hm3 hnn) fun g cap cur items hA hI => ?_; simp only [List.cons_append, List.nil_append]; (try have hA3p := hA3); (try have hI3p := hI3); have hA3 := hA; have hI3 := hI))
      | (refine s_k 14 rfl ?_; refine s_val rfl rfl rfl (r_not rfl rfl) ?_)
      | (refine s_k 2 rfl ?_; first | refine s_val rfl rfl rfl (r_pick1 rfl rfl zTr rfl) ?_ | refine s_val rfl rfl rfl (r_pick0 rfl rfl zTr rfl) ?_)
      | (refine s_k 4 rfl ?_; first | refine s_boxA rfl rfl rfl rfl rfl fun blk => ?_ | refine s_box1 rfl rfl rfl rfl rfl rfl fun blk => ?_)
      | (refine s_k 34 rfl ?_; refine s_val rfl rfl rfl (r_extractL rfl rfl rfl) ?_)
      | refine s_nil ?_)
        | (refine c_g ?_; first | refine c_seq ?_ | refine c_region ?_ | (refine c_gc ?_; first | refine c_cond1 rfl zTr ?_ | refine c_cond0 rfl zTr ?_ | refine z_condd1 rfl ?_ | refine z_condd0 rfl ?_ | refine z_conddn1 rfl ?_ | refine z_conddn0 rfl ?_ | refine c_condd rfl (fun hc => ?_) (fun hc => ?_) | refine c_conddn rfl (fun hc => ?_) (fun hc => ?_) | refine c_condn rfl (fun hc => ?_) (fun hc => ?_) | refine c_cond rfl (fun hc => ?_) (fun hc => ?_)) | refine c_block ?_ | refine c_skip ?_ | refine c_exit ?_ | refine c_ret ?_)
        | (refine e_g ?_; first | refine e_then ?_ | refine e_blkn ?_ | refine e_thenx ?_ | refine e_thenr ?_ | refine e_blkr ?_ | refine e_blkx ?_ | refine e_blky rfl ?_)
        | (refine e_ret1 (by simp) rfl (re_tmp rfl) fun w hL => ⟨rfl, hL.toBelow⟩))
namespace FnExactCheckWaysRow
open Go.ChangeShapes Go.WideShapes Go.ChangeAt Go.RowKit
theorem own : ownKnob Try.prog.godebug = none := by kernel_rfl
theorem laidOut : laidOutB Try.prog = true := by kernel_rfl
set_option maxRecDepth 100000 in
set_option maxHeartbeats 1000000 in
theorem lifted (os : Os) (started : os.Started) (H : Type) (enc : TypeId × Value → H) :
    ReturnsInHanded {} Try.checked os 3 .any (Rows.fnExactCheckWaysSpec.pre6 enc Try.prog Try.f3 Rows.fnExactCheckWaysRow.domain false) (Rows.fnExactCheckWaysSpec.post enc Try.prog Try.f3 false true false false) := by
  refine returnsInHanded_of_change (C := Try.checked) own started (by kernel_rfl) Try.func3
    (ChangeSpec.witness6 (enc := enc) (C := Try.checked) false ⟨#[], #[.agg zP, .slice none 0 0, .slice none 0 0, .slice none 0 0], []⟩ 8 (by kernel_rfl) (by kernel_rfl) (by kernel_rfl) (by kernel_rfl)) ?_
  intro W base args ds gs before hval0 hW hcnd _
  have hval : ∀ (j : Nat) t v, Try.f3.params[j]? = some t → args[j]? = some v → Value.okWide Try.prog W .any base t v := hval0
  have hW' := hW
  obtain ⟨p, q, hA0, hV, rfl, hfz, hnd⟩ := hW
  have hA : DataW.TrodAll enc Try.prog W 0 (fun _ => true) true Try.f3.params.toList args.toList ds p := hA0
  rw [Try.params3] at hA hval
  obtain ⟨v0, vs0, d0, ds0, p0, q0, hargs, rfl, rfl, h0, r0⟩ := trodAll_cons hA
  obtain ⟨v1, vs1, d1, ds1, p1, q1, rfl, rfl, rfl, h1, r1⟩ := trodAll_cons r0
  obtain ⟨v2, vs2, d2, ds2, p2, q2, rfl, rfl, rfl, h2, r2⟩ := trodAll_cons r1
  obtain ⟨v3, vs3, d3, ds3, p3, q3, rfl, rfl, rfl, h3, r3⟩ := trodAll_cons r2
  obtain ⟨rfl, rfl, rfl⟩ := trodAll_nil r3
  obtain rfl : args = #[v0, v1, v2, v3] := by cases args; simp_all
  obtain ⟨rfl, rfl⟩ := trodVars_none hV
  have k0 := h0
  have lt0 : ∀ x ∈ p0, x.block < W.heap.size := by obtain ⟨m, hm⟩ := k0; exact DataW.trod_lt m _ _ _ hm
  have k1 := h1
  have lt1 : ∀ x ∈ p1, x.block < W.heap.size := by obtain ⟨m, hm⟩ := k1; exact DataW.trod_lt m _ _ _ hm
  have k2 := h2
  have lt2 : ∀ x ∈ p2, x.block < W.heap.size := by obtain ⟨m, hm⟩ := k2; exact DataW.trod_lt m _ _ _ hm
  have k3 := h3
  have lt3 : ∀ x ∈ p3, x.block < W.heap.size := by obtain ⟨m, hm⟩ := k3; exact DataW.trod_lt m _ _ _ hm
  obtain ⟨c0, rfl, hs0, hf0⟩ := open_flat (n := 5) (ks := pasK) (by kernel_rfl) (by kernel_rfl) (by kernel_rfl) (hval 0 _ v0 rfl rfl) h0
  obtain ⟨p0', hp0⟩ := pv_of_flat hs0 hf0
  obtain ⟨xs1, hl1, hf1⟩ := open_flat_slice (n := 5) (ks := spK) Try.underlying30 (by kernel_rfl) (by kernel_rfl) (by decide) (hval 1 _ v1 rfl rfl) h1
  obtain ⟨l1, rfl, ho1⟩ := list_of_cells (f := Sp.cells) (p := Sp.ok) xs1 (fun c hc => by
    obtain ⟨hcl, _⟩ := sl_elem hl1 c hc
    exact sp_of_flat hcl (hf1 c hc))
  obtain ⟨xs2, hl2, hf2⟩ := open_flat_slice (n := 5) (ks := spK) Try.underlying30 (by kernel_rfl) (by kernel_rfl) (by decide) (hval 2 _ v2 rfl rfl) h2
  obtain ⟨l2, rfl, ho2⟩ := list_of_cells (f := Sp.cells) (p := Sp.ok) xs2 (fun c hc => by
    obtain ⟨hcl, _⟩ := sl_elem hl2 c hc
    exact sp_of_flat hcl (hf2 c hc))
  obtain ⟨S3, hl3, ho3⟩ := open_ss (n := 5) Try.underlying31 Try.underlying30 (by kernel_rfl) (by kernel_rfl) (by kernel_rfl) (hval 3 _ v3 rfl rfl) h3
  clear hA0 hval0
  refine (FnExactCheckWays_walk p0' c0 v1 l1 v2 l2 v3 S3 W hp0 hl1 ho1 hl2 ho2 hl3 ho3).mono fun e W' ⟨he, bel⟩ => ?_
  subst he
  exact ⟨_, rfl, _, _, _, [], _, [], hW', trodAll_mk1 (shut_bool Try.underlying4 _), (trodAll_cons_mk (Below.trod laidOut (by kernel_rfl) (of_decide_eq_true (by kernel_rfl)) k0 bel lt0) (trodAll_cons_mk (Below.trod laidOut (by kernel_rfl) (of_decide_eq_true (by kernel_rfl)) k1 bel lt1) (trodAll_cons_mk (Below.trod laidOut (by kernel_rfl) (of_decide_eq_true (by kernel_rfl)) k2 bel lt2) (trodAll_cons_mk (Below.trod laidOut (by kernel_rfl) (of_decide_eq_true (by kernel_rfl)) k3 bel lt3) trodAll_mk0)))), rfl, bel.frame _, fun h => by cases h⟩
theorem closed : joinedFacts Try.prog 3 Try.f3 Rows.fnExactCheckWaysSpec Rows.fnExactCheckWaysRow = true := by
  unfold joinedFacts
  rw [prog_mayEnter, prog_lifts, prog_make]
  show (_ : Bool) = true
  kernel_rfl
theorem over : Rows.fnExactCheckWaysRow.holds Try.pinned (OpenSpec.ofChange Rows.fnExactCheckWaysSpec) :=
  OpenClaim.holds_of_wide 3 Try.f3 rfl rfl rfl rfl rfl rfl rfl ⟨rfl, rfl, rfl, rfl, rfl⟩ rfl rfl rfl rfl rfl (by kernel_rfl) Try.func3 closed
    (of_decide_eq_true (by kernel_rfl)) (by unfold Func.isWrapper; first | (rw [if_pos (by decide +kernel)]; kernel_rfl) | (rw [if_neg (by decide +kernel)]; exact ⟨rfl, rfl⟩))
    (fun os started H enc _ => lifted os started H enc)
end FnExactCheckWaysRow
theorem fnExactCheckWays_holds : Rows.FnExactCheckWaysSaid := FnExactCheckWaysRow.over
#print axioms fnExactCheckWays_holds
end Go.Proofs.Ytnfdefeafhepkaa
