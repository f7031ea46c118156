import Derived.Test.YtpifngdmlmfnhaaQA27
/- UncoveredBy, SharedCells: the reference's, and the program's code. No condition. -/
namespace Go.Proofs.Ytpifngdmlmfnhaa
set_option linter.unusedVariables false
set_option linter.unusedSimpArgs false
open Go.RowKit Mem Wk
attribute [local irreducible] Calls Wk.S Wk.C Wk.E Wk.X Wk.T Wk.Y Wk.andV Wk.shrV Calm.wpLex CalmB.wpLex bfsN
theorem validStk_p {p : Nat → Int} {L : List Sk} (h : validStk p L = true) : validP p = true := by
  unfold validStk at h
  simp only [Bool.and_eq_true] at h
  exact h.1
set_option maxRecDepth 100000 in
theorem specUnc_ok (p : Nat → Int) (cs : Array Value) (v : Value) (L : List Sk) (w : World) (hp : Pv p cs) (hU : Sl w 3 v (L.map Sk.cells)) (hok : ∀ s ∈ L, s.ok) (hv : validStk p L = true) :
    Calls Try.prog 21 #[.agg cs, v] w (NewS2 88 2 (flS (pasL p (cntF p L 0 0))) 0 w) := by
  have hask := fun w' (hb : Below w.heap.size w w') T g hg => l05Asked_any p cs T g v L true w' hp hg (hU.below hb) hok
  unfold skA at hask
  simp only [hv, if_true] at hask
  obtain ⟨_, _, hl12, hget⟩ := vs_get hv
  have hcell : ∀ s ∈ L, isC (p 0) (p 1) s.x s.y = true := fun s hs => by
    obtain ⟨k, hk⟩ := List.getElem?_of_mem hs
    exact hget k s hk
  obtain ⟨A, cap, rfl, _, _, hS⟩ := hU.open
  rw [List.length_map] at hask ⊢
  have hcnt := fun w T g hg hS => l05Counted_any p cs T g A cap L 0 0 w hp hg hS hok (validStk_p hv) hl12 hcell
  refine enter2 Try.func21 rfl rfl rfl (Own.start w) ?_
  repeat' (first
    | (refine s_g ?_; first
      | (refine s_k 0 rfl ?_; refine s_val rfl rfl rfl (r_move rfl rfl) ?_)
      | (refine s_k 1 rfl ?_; refine s_val rfl rfl rfl (r_assign rfl rfl) ?_)
      | (refine s_k 13 rfl ?_; refine s_val rfl rfl rfl (r_neq rfl rfl rfl) ?_)
      | (refine s_k 35 rfl ?_; first | (refine s_call Try.func91 (by kernel_rfl) rfl rfl rfl rfl rfl rfl (fun w hL => hask w hL.toBelow _ _ (hL.at_ m0)) ?_) | (refine s_callN Try.func110 (by kernel_rfl) rfl rfl rfl rfl rfl rfl (fun w hL => hcnt w _ _ (hL.at_ m0) (hS.at_ hL)) fun g k capn cur hA => ?_; obtain rfl := hA.cnt))
      | (refine s_k 4 rfl ?_; first | refine s_boxA rfl rfl rfl rfl rfl fun blk => ?_ | refine s_box1 rfl rfl rfl rfl rfl rfl fun blk => ?_)
      | refine s_nil ?_)
    | (refine c_g ?_; first | refine c_seq ?_ | refine c_region ?_ | (refine c_gc ?_; first | refine c_cond1 rfl zTr ?_ | refine c_cond0 rfl zTr ?_ | refine z_condd1 rfl ?_ | refine z_condd0 rfl ?_ | refine z_conddn1 rfl ?_ | refine z_conddn0 rfl ?_ | refine c_condd rfl (fun hc => ?_) (fun hc => ?_) | refine c_conddn rfl (fun hc => ?_) (fun hc => ?_) | refine c_condn rfl (fun hc => ?_) (fun hc => ?_) | refine c_cond rfl (fun hc => ?_) (fun hc => ?_)) | refine c_block ?_ | refine c_skip ?_ | refine c_exit ?_ | refine c_ret ?_)
    | (refine e_g ?_; first | refine e_then ?_ | refine e_blkn ?_ | refine e_thenx ?_ | refine e_thenr ?_ | refine e_blkr ?_ | refine e_blkx ?_ | refine e_blky rfl ?_)
    | (refine e_ret2 (by simp) rfl (re_tmp rfl) (re_tmp rfl) fun w hL => NewS2.of hA hL m0))
set_option maxRecDepth 100000 in
theorem specUnc_no (p : Nat → Int) (cs : Array Value) (v : Value) (L : List Sk) (w : World) (hp : Pv p cs) (hU : Sl w 3 v (L.map Sk.cells)) (hok : ∀ s ∈ L, s.ok) (hv : validStk p L = false) :
    Calls Try.prog 21 #[.agg cs, v] w (NewS2 88 2 [] 1 w) := by
  have hask := fun w' (hb : Below w.heap.size w w') T g hg => l05Asked_any p cs T g v L true w' hp hg (hU.below hb) hok
  unfold skA at hask
  simp only [hv, Bool.false_eq_true, if_false] at hask
  obtain ⟨A, cap, rfl, _, _, hS⟩ := hU.open
  refine enter2 Try.func21 rfl rfl rfl (Own.start w) ?_
  repeat' (first
    | (refine s_g ?_; first
      | (refine s_k 0 rfl ?_; refine s_val rfl rfl rfl (r_move rfl rfl) ?_)
      | (refine s_k 1 rfl ?_; refine s_val rfl rfl rfl (r_assign rfl rfl) ?_)
      | (refine s_k 13 rfl ?_; refine s_val rfl rfl rfl (r_neq rfl rfl rfl) ?_)
      | (refine s_k 35 rfl ?_; (refine s_call Try.func91 (by kernel_rfl) rfl rfl rfl rfl rfl rfl (fun w hL => hask w hL.toBelow _ _ (hL.at_ m0)) ?_))
      | (refine s_k 4 rfl ?_; first | refine s_boxA rfl rfl rfl rfl rfl fun blk => ?_ | refine s_box1 rfl rfl rfl rfl rfl rfl fun blk => ?_)
      | (refine s_k 6 rfl ?_; refine s_bsl rfl rfl (fun w => slSpot0 w) rfl rfl rfl fun blk => ?_)
      | refine s_nil ?_)
    | (refine c_g ?_; first | refine c_seq ?_ | refine c_region ?_ | (refine c_gc ?_; first | refine c_cond1 rfl zTr ?_ | refine c_cond0 rfl zTr ?_ | refine z_condd1 rfl ?_ | refine z_condd0 rfl ?_ | refine z_conddn1 rfl ?_ | refine z_conddn0 rfl ?_ | refine c_condd rfl (fun hc => ?_) (fun hc => ?_) | refine c_conddn rfl (fun hc => ?_) (fun hc => ?_) | refine c_condn rfl (fun hc => ?_) (fun hc => ?_) | refine c_cond rfl (fun hc => ?_) (fun hc => ?_)) | refine c_block ?_ | refine c_skip ?_ | refine c_exit ?_ | refine c_ret ?_)
    | (refine e_g ?_; first | refine e_then ?_ | refine e_blkn ?_ | refine e_thenx ?_ | refine e_thenr ?_ | refine e_blkr ?_ | refine e_blkx ?_ | refine e_blky rfl ?_)
    | (refine e_ret2 (by simp) rfl (re_tmp rfl) (re_tmp rfl) fun w hL => NewS2.of (Ap.nil 2) hL m0))
set_option maxRecDepth 100000 in
theorem implUnc_no (p : Nat → Int) (cs : Array Value) (v : Value) (L : List Sk) (w : World) (hp : Pv p cs) (hU : Sl w 3 v (L.map Sk.cells)) (hok : ∀ s ∈ L, s.ok) (hv : validStk p L = false) :
    Calls Try.prog 22 #[.agg cs, v] w fun e w' => e = .returned (.tuple #[.slice none 0 0, .int .i64 1]) ∧ Below w.heap.size w w' := by
  have hsz := hp.size
  have hkc := fun w' (hb : Below w.heap.size w w') => stakeCode_any p cs v L w' hp (hU.below hb) hok
  simp only [hv, Bool.false_eq_true, if_false] at hkc
  obtain ⟨A, cap, rfl, _, _, hS⟩ := hU.open
  refine enter2 Try.func22 rfl rfl rfl (Own.start w) ?_
  repeat' (first
    | (refine s_g ?_; first
      | (refine s_k 0 rfl ?_; refine s_val rfl rfl rfl (r_move rfl rfl) ?_)
      | (refine s_k 8 rfl ?_; first | (refine' s_val rfl rfl rfl (r_ldv rfl rfl ?qm ?qv) ?_; (case qm => (exact zMm)); (case qv => (exact zLe))) | (refine' s_val rfl rfl rfl (r_ldo rfl rfl ?qw (by simp) ?qv) ?_; (case qw => assumption); (case qv => (exact zLe))))
      | (refine s_k 1 rfl ?_; refine s_val rfl rfl rfl (r_assign rfl rfl) ?_)
      | (refine s_k 13 rfl ?_; refine s_val rfl rfl rfl (r_neq rfl rfl rfl) ?_)
      | (refine s_k 35 rfl ?_; (refine s_call Try.func101 (by kernel_rfl) rfl rfl rfl rfl rfl rfl (fun w hL => hkc w hL.toBelow) ?_))
      | (refine s_k 4 rfl ?_; first | refine s_boxA rfl rfl rfl rfl rfl fun blk => ?_ | refine s_box1 rfl rfl rfl rfl rfl rfl fun blk => ?_)
      | refine s_nil ?_)
    | (refine c_g ?_; first | refine c_seq ?_ | refine c_region ?_ | (refine c_gc ?_; first | refine c_cond1 rfl zTr ?_ | refine c_cond0 rfl zTr ?_ | refine z_condd1 rfl ?_ | refine z_condd0 rfl ?_ | refine z_conddn1 rfl ?_ | refine z_conddn0 rfl ?_ | refine c_condd rfl (fun hc => ?_) (fun hc => ?_) | refine c_conddn rfl (fun hc => ?_) (fun hc => ?_) | refine c_condn rfl (fun hc => ?_) (fun hc => ?_) | refine c_cond rfl (fun hc => ?_) (fun hc => ?_)) | refine c_block ?_ | refine c_skip ?_ | refine c_exit ?_ | refine c_ret ?_)
    | (refine e_g ?_; first | refine e_then ?_ | refine e_blkn ?_ | refine e_thenx ?_ | refine e_thenr ?_ | refine e_blkr ?_ | refine e_blkx ?_ | refine e_blky rfl ?_)
    | (refine e_ret2 (by simp) rfl (re_tmp rfl) (re_tmp rfl) fun w hL => ⟨rfl, hL.toBelow⟩))
set_option maxRecDepth 100000 in
theorem specSha_ok (p : Nat → Int) (cs : Array Value) (v : Value) (L : List Sk) (w : World) (hp : Pv p cs) (hU : Sl w 3 v (L.map Sk.cells)) (hok : ∀ s ∈ L, s.ok) (hv : validStk p L = true) :
    Calls Try.prog 27 #[.agg cs, v] w (NewS2 88 2 (flS (pasL p (cntF p L 2 12))) 0 w) := by
  have hask := fun w' (hb : Below w.heap.size w w') T g hg => l05Asked_any p cs T g v L true w' hp hg (hU.below hb) hok
  unfold skA at hask
  simp only [hv, if_true] at hask
  obtain ⟨_, _, hl12, hget⟩ := vs_get hv
  have hcell : ∀ s ∈ L, isC (p 0) (p 1) s.x s.y = true := fun s hs => by
    obtain ⟨k, hk⟩ := List.getElem?_of_mem hs
    exact hget k s hk
  obtain ⟨A, cap, rfl, _, _, hS⟩ := hU.open
  rw [List.length_map] at hask ⊢
  have hcnt := fun w T g hg hS => l05Counted_any p cs T g A cap L 2 12 w hp hg hS hok (validStk_p hv) hl12 hcell
  refine enter2 Try.func27 rfl rfl rfl (Own.start w) ?_
  repeat' (first
    | (refine s_g ?_; first
      | (refine s_k 0 rfl ?_; refine s_val rfl rfl rfl (r_move rfl rfl) ?_)
      | (refine s_k 1 rfl ?_; refine s_val rfl rfl rfl (r_assign rfl rfl) ?_)
      | (refine s_k 13 rfl ?_; refine s_val rfl rfl rfl (r_neq rfl rfl rfl) ?_)
      | (refine s_k 35 rfl ?_; first | (refine s_call Try.func91 (by kernel_rfl) rfl rfl rfl rfl rfl rfl (fun w hL => hask w hL.toBelow _ _ (hL.at_ m0)) ?_) | (refine s_callN Try.func110 (by kernel_rfl) rfl rfl rfl rfl rfl rfl (fun w hL => hcnt w _ _ (hL.at_ m0) (hS.at_ hL)) fun g k capn cur hA => ?_; obtain rfl := hA.cnt))
      | (refine s_k 4 rfl ?_; first | refine s_boxA rfl rfl rfl rfl rfl fun blk => ?_ | refine s_box1 rfl rfl rfl rfl rfl rfl fun blk => ?_)
      | refine s_nil ?_)
    | (refine c_g ?_; first | refine c_seq ?_ | refine c_region ?_ | (refine c_gc ?_; first | refine c_cond1 rfl zTr ?_ | refine c_cond0 rfl zTr ?_ | refine z_condd1 rfl ?_ | refine z_condd0 rfl ?_ | refine z_conddn1 rfl ?_ | refine z_conddn0 rfl ?_ | refine c_condd rfl (fun hc => ?_) (fun hc => ?_) | refine c_conddn rfl (fun hc => ?_) (fun hc => ?_) | refine c_condn rfl (fun hc => ?_) (fun hc => ?_) | refine c_cond rfl (fun hc => ?_) (fun hc => ?_)) | refine c_block ?_ | refine c_skip ?_ | refine c_exit ?_ | refine c_ret ?_)
    | (refine e_g ?_; first | refine e_then ?_ | refine e_blkn ?_ | refine e_thenx ?_ | refine e_thenr ?_ | refine e_blkr ?_ | refine e_blkx ?_ | refine e_blky rfl ?_)
    | (refine e_ret2 (by simp) rfl (re_tmp rfl) (re_tmp rfl) fun w hL => NewS2.of hA hL m0))
set_option maxRecDepth 100000 in
theorem specSha_no (p : Nat → Int) (cs : Array Value) (v : Value) (L : List Sk) (w : World) (hp : Pv p cs) (hU : Sl w 3 v (L.map Sk.cells)) (hok : ∀ s ∈ L, s.ok) (hv : validStk p L = false) :
    Calls Try.prog 27 #[.agg cs, v] w (NewS2 88 2 [] 1 w) := by
  have hask := fun w' (hb : Below w.heap.size w w') T g hg => l05Asked_any p cs T g v L true w' hp hg (hU.below hb) hok
  unfold skA at hask
  simp only [hv, Bool.false_eq_true, if_false] at hask
  obtain ⟨A, cap, rfl, _, _, hS⟩ := hU.open
  refine enter2 Try.func27 rfl rfl rfl (Own.start w) ?_
  repeat' (first
    | (refine s_g ?_; first
      | (refine s_k 0 rfl ?_; refine s_val rfl rfl rfl (r_move rfl rfl) ?_)
      | (refine s_k 1 rfl ?_; refine s_val rfl rfl rfl (r_assign rfl rfl) ?_)
      | (refine s_k 13 rfl ?_; refine s_val rfl rfl rfl (r_neq rfl rfl rfl) ?_)
      | (refine s_k 35 rfl ?_; (refine s_call Try.func91 (by kernel_rfl) rfl rfl rfl rfl rfl rfl (fun w hL => hask w hL.toBelow _ _ (hL.at_ m0)) ?_))
      | (refine s_k 4 rfl ?_; first | refine s_boxA rfl rfl rfl rfl rfl fun blk => ?_ | refine s_box1 rfl rfl rfl rfl rfl rfl fun blk => ?_)
      | (refine s_k 6 rfl ?_; refine s_bsl rfl rfl (fun w => slSpot0 w) rfl rfl rfl fun blk => ?_)
      | refine s_nil ?_)
    | (refine c_g ?_; first | refine c_seq ?_ | refine c_region ?_ | (refine c_gc ?_; first | refine c_cond1 rfl zTr ?_ | refine c_cond0 rfl zTr ?_ | refine z_condd1 rfl ?_ | refine z_condd0 rfl ?_ | refine z_conddn1 rfl ?_ | refine z_conddn0 rfl ?_ | refine c_condd rfl (fun hc => ?_) (fun hc => ?_) | refine c_conddn rfl (fun hc => ?_) (fun hc => ?_) | refine c_condn rfl (fun hc => ?_) (fun hc => ?_) | refine c_cond rfl (fun hc => ?_) (fun hc => ?_)) | refine c_block ?_ | refine c_skip ?_ | refine c_exit ?_ | refine c_ret ?_)
    | (refine e_g ?_; first | refine e_then ?_ | refine e_blkn ?_ | refine e_thenx ?_ | refine e_thenr ?_ | refine e_blkr ?_ | refine e_blkx ?_ | refine e_blky rfl ?_)
    | (refine e_ret2 (by simp) rfl (re_tmp rfl) (re_tmp rfl) fun w hL => NewS2.of (Ap.nil 2) hL m0))
set_option maxRecDepth 100000 in
theorem implSha_no (p : Nat → Int) (cs : Array Value) (v : Value) (L : List Sk) (w : World) (hp : Pv p cs) (hU : Sl w 3 v (L.map Sk.cells)) (hok : ∀ s ∈ L, s.ok) (hv : validStk p L = false) :
    Calls Try.prog 28 #[.agg cs, v] w fun e w' => e = .returned (.tuple #[.slice none 0 0, .int .i64 1]) ∧ Below w.heap.size w w' := by
  have hsz := hp.size
  have hkc := fun w' (hb : Below w.heap.size w w') => stakeCode_any p cs v L w' hp (hU.below hb) hok
  simp only [hv, Bool.false_eq_true, if_false] at hkc
  obtain ⟨A, cap, rfl, _, _, hS⟩ := hU.open
  refine enter2 Try.func28 rfl rfl rfl (Own.start w) ?_
  repeat' (first
    | (refine s_g ?_; first
      | (refine s_k 0 rfl ?_; refine s_val rfl rfl rfl (r_move rfl rfl) ?_)
      | (refine s_k 8 rfl ?_; first | (refine' s_val rfl rfl rfl (r_ldv rfl rfl ?qm ?qv) ?_; (case qm => (exact zMm)); (case qv => (exact zLe))) | (refine' s_val rfl rfl rfl (r_ldo rfl rfl ?qw (by simp) ?qv) ?_; (case qw => assumption); (case qv => (exact zLe))))
      | (refine s_k 1 rfl ?_; refine s_val rfl rfl rfl (r_assign rfl rfl) ?_)
      | (refine s_k 13 rfl ?_; refine s_val rfl rfl rfl (r_neq rfl rfl rfl) ?_)
      | (refine s_k 35 rfl ?_; (refine s_call Try.func101 (by kernel_rfl) rfl rfl rfl rfl rfl rfl (fun w hL => hkc w hL.toBelow) ?_))
      | (refine s_k 4 rfl ?_; first | refine s_boxA rfl rfl rfl rfl rfl fun blk => ?_ | refine s_box1 rfl rfl rfl rfl rfl rfl fun blk => ?_)
      | refine s_nil ?_)
    | (refine c_g ?_; first | refine c_seq ?_ | refine c_region ?_ | (refine c_gc ?_; first | refine c_cond1 rfl zTr ?_ | refine c_cond0 rfl zTr ?_ | refine z_condd1 rfl ?_ | refine z_condd0 rfl ?_ | refine z_conddn1 rfl ?_ | refine z_conddn0 rfl ?_ | refine c_condd rfl (fun hc => ?_) (fun hc => ?_) | refine c_conddn rfl (fun hc => ?_) (fun hc => ?_) | refine c_condn rfl (fun hc => ?_) (fun hc => ?_) | refine c_cond rfl (fun hc => ?_) (fun hc => ?_)) | refine c_block ?_ | refine c_skip ?_ | refine c_exit ?_ | refine c_ret ?_)
    | (refine e_g ?_; first | refine e_then ?_ | refine e_blkn ?_ | refine e_thenx ?_ | refine e_thenr ?_ | refine e_blkr ?_ | refine e_blkx ?_ | refine e_blky rfl ?_)
    | (refine e_ret2 (by simp) rfl (re_tmp rfl) (re_tmp rfl) fun w hL => ⟨rfl, hL.toBelow⟩))
end Go.Proofs.Ytpifngdmlmfnhaa
