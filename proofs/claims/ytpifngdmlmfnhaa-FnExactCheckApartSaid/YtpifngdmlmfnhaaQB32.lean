import Derived.Test.YtpifngdmlmfnhaaQB31
/- MeetingPairs: the program's and the reference's. No condition. -/
namespace Go.Proofs.Ytpifngdmlmfnhaa
set_option linter.unusedVariables false
set_option linter.unusedSimpArgs false
open Go.RowKit Mem Wk
attribute [local irreducible] Calls Wk.S Wk.C Wk.E Wk.X Wk.T Wk.Y Wk.andV Wk.shrV Calm.wpLex CalmB.wpLex bfsN
theorem reaL_get {p : Nat → Int} {L : List Sk} {k : Nat} {s : Sk} (h : L[k]? = some s) : (reaL p L)[k]? = some (reachL p s) := by unfold reaL; rw [List.getElem?_map, h]; rfl
theorem reaL_length (p : Nat → Int) (L : List Sk) : (reaL p L).length = L.length := by unfold reaL; rw [List.length_map]
def mpL (p : Nat → Int) (L : List Sk) : List (Nat × Nat) := prAll (meetL (reaL p L)) L.length L.length
theorem meet_rea {p : Nat → Int} {L : List Sk} {i k : Nat} {a b : Sk} (h1 : L[i]? = some a) (h2 : L[k]? = some b) : meetL (reaL p L) i k = decide (0 < (cmnL (reachL p a) (reachL p b)).length) := by
  unfold meetL; rw [List.getD_eq_getElem?_getD, List.getD_eq_getElem?_getD, reaL_get h1, reaL_get h2]; rfl
theorem mpL_len (p : Nat → Int) (L : List Sk) (h : L.length ≤ 12) : (mpL p L).length ≤ 144 := by
  have h1 := prAll_len (meetL (reaL p L)) L.length L.length
  have h2 : L.length * L.length ≤ 12 * 12 := Nat.mul_le_mul h h
  unfold mpL; omega
theorem cntPr {n cap : Nat} {cur : Array Value} {l : List (Nat × Nat)} (h : Ap 2 n cap cur (flPr l)) : n = l.length := by
  have h1 := h.len
  rw [flPr_len] at h1; omega
theorem cmnL_len (a b : List Sp) : (cmnL a b).length ≤ a.length := List.length_filter_le _ _
set_option maxRecDepth 100000 in
set_option maxHeartbeats 1600000 in
theorem specMpr_ok (p : Nat → Int) (cs : Array Value) (v : Value) (L : List Sk) (w : World) (hp : Pv p cs) (hU : Sl w 3 v (L.map Sk.cells)) (hok : ∀ s ∈ L, s.ok) (hv : validStk p L = true) :
    Calls Try.prog 29 #[.agg cs, v] w (NewS2 152 2 (flPr (mpL p L)) 0 w) := by
  have hask := fun w' (hb : Below w.heap.size w w') T g hg => l05Asked_any p cs T g v L true w' hp hg (hU.below hb) hok
  unfold skA at hask
  simp only [hv, if_true] at hask
  obtain ⟨ha, hb, hl12, hget⟩ := vs_get hv
  have hcell : ∀ s ∈ L, isC (p 0) (p 1) s.x s.y = true := fun s hs => by
    obtain ⟨k, hk⟩ := List.getElem?_of_mem hs
    exact hget k s hk
  obtain ⟨A, cap, rfl, _, _, hS⟩ := hU.open
  rw [List.length_map] at hask ⊢
  unfold mpL
  have hMd := fun i k a b h1 h2 => meet_rea (p := p) (L := L) (i := i) (k := k) (a := a) (b := b) h1 h2
  generalize meetL (reaL p L) = M at *
  refine enter2 Try.func29 rfl rfl rfl (Own.start w) ?_
  repeat' (first
    | (refine s_g ?_; first
      | (refine s_k 0 rfl ?_; refine s_val rfl rfl rfl (r_move rfl rfl) ?_)
      | (refine s_k 8 rfl ?_; first | (refine' s_val rfl rfl rfl (r_ldv rfl rfl ?qm ?qv) ?_; (case qm => (exact zMm)); (case qv => (exact zLe))) | (refine' s_val rfl rfl rfl (r_ldo rfl rfl ?qw (by simp) ?qv) ?_; (case qw => assumption); (case qv => (exact zLe))))
      | (refine s_k 1 rfl ?_; refine s_val rfl rfl rfl (r_assign rfl rfl) ?_)
      | (refine s_k 13 rfl ?_; first | refine s_val rfl rfl rfl (r_lss rfl rfl rfl) ?_ | refine s_val rfl rfl rfl (r_neq rfl rfl rfl) ?_ | refine s_val rfl rfl rfl (r_add rfl rfl rfl (wrap_in (by simp only [lo, hi]; omega))) ?_ | refine s_val rfl rfl rfl (r_gtr rfl rfl rfl) ?_)
      | (refine s_k 35 rfl ?_; (refine s_call Try.func91 (by kernel_rfl) rfl rfl rfl rfl rfl rfl (fun w hL => hask w hL.toBelow _ _ (hL.at_ m1)) ?_))
      | (refine s_k 25 rfl ?_; first | refine s_val rfl rfl rfl (r_ixN tb rfl rfl rfl rfl (by omega)) ?_ | refine s_val rfl rfl rfl (r_ixA tb rfl rfl rfl rfl (by omega) (by omega)) ?_ | refine s_val rfl rfl rfl (r_ixO tb rfl rfl rfl rfl (by omega)) ?_)
      | (refine s_k 4 rfl ?_; first | refine s_boxA rfl rfl rfl rfl rfl fun blk => ?_ | refine s_box1 rfl rfl rfl rfl rfl rfl fun blk => ?_)
      | (refine s_k 36 rfl ?_; refine s_val rfl rfl rfl (r_len tb rfl rfl rfl) ?_)
      | (refine s_k 6 rfl ?_; refine s_bsl rfl rfl (fun w => slPair0 w) rfl rfl rfl fun blk => ?_)
      | refine s_nil ?_)
    | (refine c_g ?_; first | refine c_seq ?_ | refine c_region ?_ | (refine c_gc ?_; first | refine c_cond1 rfl zTr ?_ | refine c_cond0 rfl zTr ?_ | refine z_condd1 rfl ?_ | refine z_condd0 rfl ?_ | refine z_conddn1 rfl ?_ | refine z_conddn0 rfl ?_ | refine c_condd rfl (fun hc => ?_) (fun hc => ?_) | refine c_conddn rfl (fun hc => ?_) (fun hc => ?_) | refine c_condn rfl (fun hc => ?_) (fun hc => ?_) | refine c_cond rfl (fun hc => ?_) (fun hc => ?_)) | refine c_block ?_ | refine c_skip ?_ | refine c_exit ?_ | refine c_ret ?_)
    | (refine e_g ?_; first | refine e_then ?_ | refine e_blkn ?_ | refine e_thenx ?_ | refine e_thenr ?_ | refine e_blkr ?_ | refine e_blkx ?_ | refine e_blky rfl ?_))
  rename_i b2
  refine c_loop (ι := Nat × Nat × Nat × Array Value) (fun i => L.length - i.1) (fun i => i.1 ≤ L.length ∧ Ap 2 (prAll M L.length i.1).length i.2.2.1 i.2.2.2 (flPr (prAll M L.length i.1))) (fun i => [(8, .int .i64 (i.1 : Int)), (6, .slice (some ⟨i.2.1, 0, none⟩) (prAll M L.length i.1).length i.2.2.1), (1, .slice A L.length cap), (2, .pointer (some ⟨b2, 0, none⟩))]) (fun i => [(i.2.1, 152, i.2.2.2), (b2, 34, cs)]) (0, blk, 0, #[]) ⟨by simp, by simpa [prAll, flPr] using Ap.nil 2⟩ ?hs rfl ?_
  case hs => (repeat' (first | exact sub_nil | refine sub_cons rfl ?_ | refine sub_cons' rfl (by simp [prAll]) ?_))
  rintro ⟨i, go, cpo, co⟩ ⟨hile, hAo⟩
  simp only at hile hAo ⊢
  have hpl := prAll_len M L.length i
  have hin2 : i * L.length ≤ 12 * 12 := Nat.mul_le_mul (by omega) hl12
  by_cases hlt : i < L.length
  · have hxa : L[i]? = some L[i] := List.getElem?_eq_getElem hlt
    have hoa := hok _ (List.getElem_mem hlt)
    have hca := hcell _ (List.getElem_mem hlt)
    have hr0 := prRow_start M i (i + 1) (Nat.le_refl _)
    have hal : prAll M L.length (i + 1) = prAll M L.length i ++ prRow M i L.length := rfl
    have hMi := fun k b h2 => hMd i k _ b hxa h2
    generalize L[i] = sa at *
    have hxa' : (L.map Sk.cells)[i]? = some sa.cells := by simp [hxa]
    have hlta : i < (L.map Sk.cells).length := by simpa using hlt
    generalize prAll M L.length i = P at *
    repeat' (first
      | (refine s_g ?_; first
      | (refine s_k 0 rfl ?_; refine s_val rfl rfl rfl (r_move rfl rfl) ?_)
      | (refine s_k 8 rfl ?_; first | (refine' s_val rfl rfl rfl (r_ldv rfl rfl ?qm ?qv) ?_; (case qm => (exact zMm)); (case qv => (exact zLe))) | (refine' s_val rfl rfl rfl (r_ldo rfl rfl ?qw (by simp) ?qv) ?_; (case qw => assumption); (case qv => (exact zLe))))
      | (refine s_k 1 rfl ?_; refine s_val rfl rfl rfl (r_assign rfl rfl) ?_)
      | (refine s_k 13 rfl ?_; first | refine s_val rfl rfl rfl (r_lss rfl rfl rfl) ?_ | refine s_val rfl rfl rfl (r_neq rfl rfl rfl) ?_ | refine s_val rfl rfl rfl (r_add rfl rfl rfl (wrap_in (by simp only [lo, hi]; omega))) ?_ | refine s_val rfl rfl rfl (r_gtr rfl rfl rfl) ?_)
      | (refine s_k 25 rfl ?_; first | refine s_val rfl rfl rfl (r_ixN tb rfl rfl rfl rfl (by omega)) ?_ | refine s_val rfl rfl rfl (r_ixA tb rfl rfl rfl rfl (by omega) (by omega)) ?_ | refine s_val rfl rfl rfl (r_ixO tb rfl rfl rfl rfl (by omega)) ?_)
      | (refine s_k 4 rfl ?_; first | refine s_boxA rfl rfl rfl rfl rfl fun blk => ?_ | refine s_box1 rfl rfl rfl rfl rfl rfl fun blk => ?_)
      | (refine s_k 36 rfl ?_; refine s_val rfl rfl rfl (r_len tb rfl rfl rfl) ?_)
      | refine s_nil ?_)
      | (refine c_g ?_; first | refine c_seq ?_ | refine c_region ?_ | (refine c_gc ?_; first | refine c_cond1 rfl zTr ?_ | refine c_cond0 rfl zTr ?_ | refine z_condd1 rfl ?_ | refine z_condd0 rfl ?_ | refine z_conddn1 rfl ?_ | refine z_conddn0 rfl ?_ | refine c_condd rfl (fun hc => ?_) (fun hc => ?_) | refine c_conddn rfl (fun hc => ?_) (fun hc => ?_) | refine c_condn rfl (fun hc => ?_) (fun hc => ?_) | refine c_cond rfl (fun hc => ?_) (fun hc => ?_)) | refine c_block ?_ | refine c_skip ?_ | refine c_exit ?_ | refine c_ret ?_)
      | (refine e_g ?_; first | refine e_then ?_ | refine e_blkn ?_ | refine e_thenx ?_ | refine e_thenr ?_ | refine e_blkr ?_ | refine e_blkx ?_ | refine e_blky rfl ?_))
    refine c_loop (ι := Nat × Nat × Nat × Array Value) (fun i => L.length - i.1) (fun j => i < j.1 ∧ j.1 ≤ L.length ∧ Ap 2 (P ++ prRow M i j.1).length j.2.2.1 j.2.2.2 (flPr (P ++ prRow M i j.1))) (fun j => [(9, .int .i64 (j.1 : Int)), (8, .int .i64 (i : Int)), (6, .slice (some ⟨j.2.1, 0, none⟩) (P ++ prRow M i j.1).length j.2.2.1), (1, .slice A L.length cap), (2, .pointer (some ⟨b2, 0, none⟩))]) (fun j => [(j.2.1, 152, j.2.2.2), (b2, 34, cs)]) (i + 1, go, cpo, co) ⟨by simp, by simp; omega, by simp only [hr0, List.append_nil]; exact hAo⟩ ?hs rfl ?_
    case hs => rw [hr0, List.append_nil]; (repeat' (first | exact sub_nil | refine sub_cons rfl ?_ | refine sub_cons' rfl (by simp) ?_))
    rintro ⟨k, go, cpo, co⟩ ⟨hik, hk, hAo⟩
    simp only at hik hk hAo ⊢
    have hrl := prRow_len M i k
    have hPr : (P ++ prRow M i k).length ≤ 1000 := by rw [List.length_append]; omega
    by_cases hlk : k < L.length
    · have hxb : L[k]? = some L[k] := List.getElem?_eq_getElem hlk
      have hob := hok _ (List.getElem_mem hlk)
      have hcb := hcell _ (List.getElem_mem hlk)
      have hM := hMi k _ hxb
      generalize L[k] = sb at *
      have hxb' : (L.map Sk.cells)[k]? = some sb.cells := by simp [hxb]
      have hltb : k < (L.map Sk.cells).length := by simpa using hlk
      have hcom := fun w T gp hg => l05Common_any p cs T gp sa sb w hp hg hoa hob ha hb hca hcb
      have hcl := Nat.le_trans (cmnL_len (reachL p sa) (reachL p sb)) (reachL_len (s := sa) ha hb hca)
      by_cases hm : 0 < (cmnL (reachL p sa) (reachL p sb)).length
      case' pos => have hsn : P ++ prRow M i (k + 1) = P ++ prRow M i k ++ [(i, k)] := by rw [prRow_yes hik (hM.trans (decide_eq_true hm)), List.append_assoc]
      case' neg => have hsn : P ++ prRow M i (k + 1) = P ++ prRow M i k := by rw [prRow_no (i := i) (hM.trans (decide_eq_false hm))]
      all_goals
        generalize cmnL (reachL p sa) (reachL p sb) = Cm at *
        generalize P ++ prRow M i k = PP at *
        have hmx : Cm.length ≤ maxLen := by unfold maxLen; omega
        repeat' (first
          | (refine s_g ?_; first
      | (refine s_k 0 rfl ?_; refine s_val rfl rfl rfl (r_move rfl rfl) ?_)
      | (refine s_k 8 rfl ?_; first | refine s_val rfl rfl rfl (r_ldS tb rfl hS rfl hxa' rfl) ?_ | refine s_val rfl rfl rfl (r_ldS tb rfl hS rfl hxb' rfl) ?_ | (refine' s_val rfl rfl rfl (r_ldv rfl rfl ?qm ?qv) ?_; (case qm => (exact zMm)); (case qv => (exact zLe))) | (refine' s_val rfl rfl rfl (r_ldo rfl rfl ?qw (by simp) ?qv) ?_; (case qw => assumption); (case qv => (exact zLe))))
      | (refine s_k 1 rfl ?_; refine s_val rfl rfl rfl (r_assign rfl rfl) ?_)
      | (refine s_k 13 rfl ?_; first | refine s_val rfl rfl rfl (r_lss rfl rfl rfl) ?_ | refine s_val rfl rfl rfl (r_neq rfl rfl rfl) ?_ | refine s_val rfl rfl rfl (r_add rfl rfl rfl (wrap_in (by simp only [lo, hi]; omega))) ?_ | refine s_val rfl rfl rfl (r_gtr rfl rfl rfl) ?_)
      | (refine s_k 25 rfl ?_; first | refine s_val rfl rfl rfl (r_ixS tb rfl hS rfl rfl rfl (by simp) hlta) ?_ | refine s_val rfl rfl rfl (r_ixS tb rfl hS rfl rfl rfl (by simp) hltb) ?_ | refine s_val rfl rfl rfl (r_ixN tb rfl rfl rfl rfl (by omega)) ?_ | refine s_val rfl rfl rfl (r_ixA tb rfl rfl rfl rfl (by omega) (by omega)) ?_ | refine s_val rfl rfl rfl (r_ixO tb rfl rfl rfl rfl (by omega)) ?_)
      | (refine s_k 4 rfl ?_; first | refine s_boxA rfl rfl rfl rfl rfl fun blk => ?_ | refine s_box1 rfl rfl rfl rfl rfl rfl fun blk => ?_)
      | (refine s_k 36 rfl ?_; first | refine s_app1 hAo rfl rfl rfl uPairS iPair rfl (by omega) (by simp) (by simp) rfl (by simp [Value.oneCell']) (by unfold maxLen; omega) (by omega) rfl rfl rfl fun g' cap' cur' hA' => ?_ | refine s_val rfl rfl rfl (r_len tb rfl rfl rfl) ?_)
      | (refine s_k 5 rfl ?_; refine s_val rfl rfl rfl (r_build rfl rfl (fun w => bPair _ _ rfl rfl w)) ?_)
      | (refine s_k 6 rfl ?_; refine s_bsl rfl rfl (fun w => slPair1 _ _ w) rfl rfl rfl fun blk => ?_)
      | refine s_nil ?_)
          | (refine c_g ?_; first | refine c_seq ?_ | refine c_region ?_ | (refine c_gc ?_; first | refine c_cond1 rfl zTr ?_ | refine c_cond0 rfl zTr ?_ | refine z_condd1 rfl ?_ | refine z_condd0 rfl ?_ | refine z_conddn1 rfl ?_ | refine z_conddn0 rfl ?_ | refine c_condd rfl (fun hc => ?_) (fun hc => ?_) | refine c_conddn rfl (fun hc => ?_) (fun hc => ?_) | refine c_condn rfl (fun hc => ?_) (fun hc => ?_) | refine c_cond rfl (fun hc => ?_) (fun hc => ?_)) | refine c_block ?_ | refine c_skip ?_ | refine c_exit ?_ | refine c_ret ?_)
          | (refine e_g ?_; first | refine e_then ?_ | refine e_blkn ?_ | refine e_thenx ?_ | refine e_thenr ?_ | refine e_blkr ?_ | refine e_blkx ?_ | refine e_blky rfl ?_)
          | (refine y_g ?_; first
      | (refine y_k 8 rfl ?_; first | (refine y_val rfl rfl rfl (r_ldS tb rfl hS rfl hxa' rfl) ?hp ?_; (case hp => exact rfl)) | (refine y_val rfl rfl rfl (r_ldS tb rfl hS rfl hxb' rfl) ?hp ?_; (case hp => exact rfl)) | (refine' y_val rfl rfl rfl (r_ldv rfl rfl ?qm ?qv) ?hp ?_; (case qm => (exact zMm)); (case qv => (exact zLe)); (case hp => exact rfl)) | (refine' y_val rfl rfl rfl (r_ldo rfl rfl ?qw (by simp) ?qv) ?hp ?_; (case qw => assumption); (case qv => (exact zLe)); (case hp => exact rfl)))
      | (refine y_k 13 rfl ?_; first | (refine y_val rfl rfl rfl (r_lss rfl rfl rfl) ?hp ?_; (case hp => exact rfl)) | (refine y_val rfl rfl rfl (r_neq rfl rfl rfl) ?hp ?_; (case hp => exact rfl)) | (refine y_val rfl rfl rfl (r_add rfl rfl rfl (wrap_in (by simp only [lo, hi]; omega))) ?hp ?_; (case hp => exact rfl)) | (refine y_val rfl rfl rfl (r_gtr rfl rfl rfl) ?hp ?_; (case hp => exact rfl)))
      | (refine y_k 35 rfl ?_; (refine' y_callN Try.func114 (by kernel_rfl) rfl rfl rfl rfl rfl rfl (fun w hL => hcom w _ _ (hL.at_ m1)) (flS_len Cm) hmx ?hp (fun gc kc cpc cuc hAc => ?_); (case hp => exact rfl); obtain rfl := hAc.cnt))
      | (refine y_k 25 rfl ?_; first | (refine y_val rfl rfl rfl (r_ixS tb rfl hS rfl rfl rfl (by simp) hlta) ?hp ?_; (case hp => exact rfl)) | (refine y_val rfl rfl rfl (r_ixS tb rfl hS rfl rfl rfl (by simp) hltb) ?hp ?_; (case hp => exact rfl)) | (refine y_val rfl rfl rfl (r_ixN tb rfl rfl rfl rfl (by omega)) ?hp ?_; (case hp => exact rfl)) | (refine y_val rfl rfl rfl (r_ixA tb rfl rfl rfl rfl (by omega) (by omega)) ?hp ?_; (case hp => exact rfl)) | (refine y_val rfl rfl rfl (r_ixO tb rfl rfl rfl rfl (by omega)) ?hp ?_; (case hp => exact rfl)))
      | (refine y_k 36 rfl ?_; (refine y_val rfl rfl rfl (r_len tb rfl rfl rfl) ?hp ?_; (case hp => exact rfl)))
      | (refine y_k 5 rfl ?_; (refine y_val rfl rfl rfl (r_build rfl rfl (fun w => bPair _ _ rfl rfl w)) ?hp ?_; (case hp => exact rfl)))
      | refine y_nil0 ?_
      | refine y_nil ?_
      | (refine' y_k 0 rfl ?_; (refine' y_move rfl rfl rfl rfl rfl ?hp ?_; (case hp => exact rfl)))
      | (refine' y_k 1 rfl ?_; (refine' y_assign rfl rfl rfl rfl rfl ?hp ?_; (case hp => exact rfl)))
      | (refine' y_k 6 rfl ?_; (refine' y_bsl rfl rfl (fun w => slPair1 _ _ w) rfl rfl rfl ?hp (fun blk => ?_); (case hp => exact rfl))))
          | (refine' c_drawY (id := 11) [(Sum.inl _ : CalmB.Plan), (Sum.inl _ : CalmB.Plan), (Sum.inl _ : CalmB.Plan), (Sum.inl _ : CalmB.Plan), (Sum.inl _ : CalmB.Plan), (Sum.inl _ : CalmB.Plan), (Sum.inl _ : CalmB.Plan), (Sum.inl _ : CalmB.Plan), (Sum.inr _ : CalmB.Plan), (Sum.inl _ : CalmB.Plan), (Sum.inl _ : CalmB.Plan)] (by kernel_rfl) (by kernel_rfl) ?_)
          | (refine e_drop0 (e_round (k + 1, g', cap', cur') (by simp; omega) ⟨by simp; omega, by simp; omega, by simp only; rw [hsn, flPr_snoc]; simpa [prC] using hA'⟩ ?_ rfl))
          | (refine e_drop0 (e_round (k + 1, go, cpo, co) (by simp; omega) ⟨by simp; omega, by simp; omega, by simp only; rw [hsn]; exact hAo⟩ ?_ rfl)))
        all_goals (rw [hsn]; (repeat' (first | exact sub_nil | refine sub_cons rfl ?_ | refine sub_cons' rfl (by simp) ?_ | refine sub_cons' rfl (by simp [Nat.add_assoc]) ?_)))
    · have hkn : k = L.length := by omega
      subst hkn
      rw [← hal] at hAo ⊢
      repeat' (first
        | (refine s_g ?_; first
      | (refine s_k 0 rfl ?_; refine s_val rfl rfl rfl (r_move rfl rfl) ?_)
      | (refine s_k 8 rfl ?_; first | (refine' s_val rfl rfl rfl (r_ldv rfl rfl ?qm ?qv) ?_; (case qm => (exact zMm)); (case qv => (exact zLe))) | (refine' s_val rfl rfl rfl (r_ldo rfl rfl ?qw (by simp) ?qv) ?_; (case qw => assumption); (case qv => (exact zLe))))
      | (refine s_k 1 rfl ?_; refine s_val rfl rfl rfl (r_assign rfl rfl) ?_)
      | (refine s_k 13 rfl ?_; first | refine s_val rfl rfl rfl (r_lss rfl rfl rfl) ?_ | refine s_val rfl rfl rfl (r_neq rfl rfl rfl) ?_ | refine s_val rfl rfl rfl (r_add rfl rfl rfl (wrap_in (by simp only [lo, hi]; omega))) ?_ | refine s_val rfl rfl rfl (r_gtr rfl rfl rfl) ?_)
      | (refine s_k 25 rfl ?_; first | refine s_val rfl rfl rfl (r_ixN tb rfl rfl rfl rfl (by omega)) ?_ | refine s_val rfl rfl rfl (r_ixA tb rfl rfl rfl rfl (by omega) (by omega)) ?_ | refine s_val rfl rfl rfl (r_ixO tb rfl rfl rfl rfl (by omega)) ?_)
      | (refine s_k 4 rfl ?_; first | refine s_boxA rfl rfl rfl rfl rfl fun blk => ?_ | refine s_box1 rfl rfl rfl rfl rfl rfl fun blk => ?_)
      | (refine s_k 36 rfl ?_; refine s_val rfl rfl rfl (r_len tb rfl rfl rfl) ?_)
      | refine s_nil ?_)
        | (refine c_g ?_; first | refine c_seq ?_ | refine c_region ?_ | (refine c_gc ?_; first | refine c_cond1 rfl zTr ?_ | refine c_cond0 rfl zTr ?_ | refine z_condd1 rfl ?_ | refine z_condd0 rfl ?_ | refine z_conddn1 rfl ?_ | refine z_conddn0 rfl ?_ | refine c_condd rfl (fun hc => ?_) (fun hc => ?_) | refine c_conddn rfl (fun hc => ?_) (fun hc => ?_) | refine c_condn rfl (fun hc => ?_) (fun hc => ?_) | refine c_cond rfl (fun hc => ?_) (fun hc => ?_)) | refine c_block ?_ | refine c_skip ?_ | refine c_exit ?_ | refine c_ret ?_)
        | (refine e_g ?_; first | refine e_then ?_ | refine e_blkn ?_ | refine e_thenx ?_ | refine e_thenr ?_ | refine e_blkr ?_ | refine e_blkx ?_ | refine e_blky rfl ?_)
        | (refine e_round (i + 1, go, cpo, co) (by simp; omega) ⟨by simp; omega, hAo⟩ ?_ rfl))
      all_goals (repeat' (first | exact sub_nil | refine sub_cons rfl ?_))
  · have hin3 : i = L.length := by omega
    subst hin3
    repeat' (first
      | (refine s_g ?_; first
      | (refine s_k 0 rfl ?_; refine s_val rfl rfl rfl (r_move rfl rfl) ?_)
      | (refine s_k 8 rfl ?_; first | (refine' s_val rfl rfl rfl (r_ldv rfl rfl ?qm ?qv) ?_; (case qm => (exact zMm)); (case qv => (exact zLe))) | (refine' s_val rfl rfl rfl (r_ldo rfl rfl ?qw (by simp) ?qv) ?_; (case qw => assumption); (case qv => (exact zLe))))
      | (refine s_k 1 rfl ?_; refine s_val rfl rfl rfl (r_assign rfl rfl) ?_)
      | (refine s_k 13 rfl ?_; first | refine s_val rfl rfl rfl (r_lss rfl rfl rfl) ?_ | refine s_val rfl rfl rfl (r_neq rfl rfl rfl) ?_ | refine s_val rfl rfl rfl (r_add rfl rfl rfl (wrap_in (by simp only [lo, hi]; omega))) ?_ | refine s_val rfl rfl rfl (r_gtr rfl rfl rfl) ?_)
      | (refine s_k 25 rfl ?_; first | refine s_val rfl rfl rfl (r_ixN tb rfl rfl rfl rfl (by omega)) ?_ | refine s_val rfl rfl rfl (r_ixA tb rfl rfl rfl rfl (by omega) (by omega)) ?_ | refine s_val rfl rfl rfl (r_ixO tb rfl rfl rfl rfl (by omega)) ?_)
      | (refine s_k 4 rfl ?_; first | refine s_boxA rfl rfl rfl rfl rfl fun blk => ?_ | refine s_box1 rfl rfl rfl rfl rfl rfl fun blk => ?_)
      | (refine s_k 36 rfl ?_; refine s_val rfl rfl rfl (r_len tb rfl rfl rfl) ?_)
      | refine s_nil ?_)
      | (refine c_g ?_; first | refine c_seq ?_ | refine c_region ?_ | (refine c_gc ?_; first | refine c_cond1 rfl zTr ?_ | refine c_cond0 rfl zTr ?_ | refine z_condd1 rfl ?_ | refine z_condd0 rfl ?_ | refine z_conddn1 rfl ?_ | refine z_conddn0 rfl ?_ | refine c_condd rfl (fun hc => ?_) (fun hc => ?_) | refine c_conddn rfl (fun hc => ?_) (fun hc => ?_) | refine c_condn rfl (fun hc => ?_) (fun hc => ?_) | refine c_cond rfl (fun hc => ?_) (fun hc => ?_)) | refine c_block ?_ | refine c_skip ?_ | refine c_exit ?_ | refine c_ret ?_)
      | (refine e_g ?_; first | refine e_then ?_ | refine e_blkn ?_ | refine e_thenx ?_ | refine e_thenr ?_ | refine e_blkr ?_ | refine e_blkx ?_ | refine e_blky rfl ?_)
      | (refine e_ret2 (by simp) rfl (re_tmp rfl) (re_tmp rfl) fun w hL => NewS2.of hAo hL m0))
set_option maxRecDepth 100000 in
theorem specMpr_no (p : Nat → Int) (cs : Array Value) (v : Value) (L : List Sk) (w : World) (hp : Pv p cs) (hU : Sl w 3 v (L.map Sk.cells)) (hok : ∀ s ∈ L, s.ok) (hv : validStk p L = false) :
    Calls Try.prog 29 #[.agg cs, v] w (NewS2 152 2 (flPr []) 1 w) := by
  have hask := fun w' (hb : Below w.heap.size w w') T g hg => l05Asked_any p cs T g v L true w' hp hg (hU.below hb) hok
  unfold skA at hask
  simp only [hv, Bool.false_eq_true, if_false] at hask
  obtain ⟨A, cap, rfl, _, _, hS⟩ := hU.open
  refine enter2 Try.func29 rfl rfl rfl (Own.start w) ?_
  repeat' (first
    | (refine s_g ?_; first
      | (refine s_k 0 rfl ?_; refine s_val rfl rfl rfl (r_move rfl rfl) ?_)
      | (refine s_k 8 rfl ?_; first | (refine' s_val rfl rfl rfl (r_ldv rfl rfl ?qm ?qv) ?_; (case qm => (exact zMm)); (case qv => (exact zLe))) | (refine' s_val rfl rfl rfl (r_ldo rfl rfl ?qw (by simp) ?qv) ?_; (case qw => assumption); (case qv => (exact zLe))))
      | (refine s_k 1 rfl ?_; refine s_val rfl rfl rfl (r_assign rfl rfl) ?_)
      | (refine s_k 13 rfl ?_; first | refine s_val rfl rfl rfl (r_lss rfl rfl rfl) ?_ | refine s_val rfl rfl rfl (r_neq rfl rfl rfl) ?_ | refine s_val rfl rfl rfl (r_add rfl rfl rfl (wrap_in (by simp only [lo, hi]; omega))) ?_ | refine s_val rfl rfl rfl (r_gtr rfl rfl rfl) ?_)
      | (refine s_k 35 rfl ?_; (refine s_call Try.func91 (by kernel_rfl) rfl rfl rfl rfl rfl rfl (fun w hL => hask w hL.toBelow _ _ (hL.at_ m1)) ?_))
      | (refine s_k 25 rfl ?_; first | refine s_val rfl rfl rfl (r_ixN tb rfl rfl rfl rfl (by omega)) ?_ | refine s_val rfl rfl rfl (r_ixA tb rfl rfl rfl rfl (by omega) (by omega)) ?_ | refine s_val rfl rfl rfl (r_ixO tb rfl rfl rfl rfl (by omega)) ?_)
      | (refine s_k 4 rfl ?_; first | refine s_boxA rfl rfl rfl rfl rfl fun blk => ?_ | refine s_box1 rfl rfl rfl rfl rfl rfl fun blk => ?_)
      | (refine s_k 36 rfl ?_; refine s_val rfl rfl rfl (r_len tb rfl rfl rfl) ?_)
      | (refine s_k 6 rfl ?_; refine s_bsl rfl rfl (fun w => slPair0 w) rfl rfl rfl fun blk => ?_)
      | refine s_nil ?_)
    | (refine c_g ?_; first | refine c_seq ?_ | refine c_region ?_ | (refine c_gc ?_; first | refine c_cond1 rfl zTr ?_ | refine c_cond0 rfl zTr ?_ | refine z_condd1 rfl ?_ | refine z_condd0 rfl ?_ | refine z_conddn1 rfl ?_ | refine z_conddn0 rfl ?_ | refine c_condd rfl (fun hc => ?_) (fun hc => ?_) | refine c_conddn rfl (fun hc => ?_) (fun hc => ?_) | refine c_condn rfl (fun hc => ?_) (fun hc => ?_) | refine c_cond rfl (fun hc => ?_) (fun hc => ?_)) | refine c_block ?_ | refine c_skip ?_ | refine c_exit ?_ | refine c_ret ?_)
    | (refine e_g ?_; first | refine e_then ?_ | refine e_blkn ?_ | refine e_thenx ?_ | refine e_thenr ?_ | refine e_blkr ?_ | refine e_blkx ?_ | refine e_blky rfl ?_)
    | (refine e_ret2 (by simp) rfl (re_tmp rfl) (re_tmp rfl) fun w hL => NewS2.of (Ap.nil 2) hL m0))
set_option maxRecDepth 100000 in
theorem implMpr_ok (p : Nat → Int) (cs : Array Value) (v : Value) (L : List Sk) (w : World) (hp : Pv p cs) (hU : Sl w 3 v (L.map Sk.cells)) (hok : ∀ s ∈ L, s.ok) (hv : validStk p L = true) :
    Calls Try.prog 30 #[.agg cs, v] w (NewS2 152 2 (flPr (mpL p L)) 0 w) := by
  have hsz := hp.size
  have hkc := fun w' (hb : Below w.heap.size w w') => stakeCode_any p cs v L w' hp (hU.below hb) hok
  simp only [hv, if_true] at hkc
  obtain ⟨ha, hb, hl12, hget⟩ := vs_get hv
  have hcell : ∀ s ∈ L, isC (p 0) (p 1) s.x s.y = true := fun s hs => by
    obtain ⟨k, hk⟩ := List.getElem?_of_mem hs
    exact hget k s hk
  obtain ⟨A, capL, rfl, _, _, hS⟩ := hU.open
  rw [List.length_map] at hkc ⊢
  have hrea := fun w hS => reaches_any p cs A capL L w hp hS hok ha hb (by omega) hcell
  have hrl := reaL_length p L
  have hr100 : ∀ s ∈ reaL p L, s.length ≤ 1048576 := fun s hs => by
    unfold reaL at hs
    obtain ⟨k, hk, rfl⟩ := List.mem_map.1 hs
    have := reachL_len (s := k) ha hb (hcell k hk)
    omega
  have he : mpL p L = prAll (meetL (reaL p L)) (reaL p L).length (reaL p L).length := by rw [hrl]; rfl
  rw [he]
  generalize hR : reaL p L = RR at *
  refine enter2 Try.func30 rfl rfl rfl (Own.start w) ?_
  repeat' (first
    | (refine s_g ?_; first
      | (refine s_k 0 rfl ?_; refine s_val rfl rfl rfl (r_move rfl rfl) ?_)
      | (refine s_k 8 rfl ?_; first | (refine' s_val rfl rfl rfl (r_ldv rfl rfl ?qm ?qv) ?_; (case qm => (exact zMm)); (case qv => (exact zLe))) | (refine' s_val rfl rfl rfl (r_ldo rfl rfl ?qw (by simp) ?qv) ?_; (case qw => assumption); (case qv => (exact zLe))))
      | (refine s_k 1 rfl ?_; refine s_val rfl rfl rfl (r_assign rfl rfl) ?_)
      | (refine s_k 13 rfl ?_; refine s_val rfl rfl rfl (r_neq rfl rfl rfl) ?_)
      | (refine s_k 35 rfl ?_; first | (refine s_call Try.func101 (by kernel_rfl) rfl rfl rfl rfl rfl rfl (fun w hL => hkc w hL.toBelow) ?_) | (refine s_callSS (S := RR) Try.func116 (by kernel_rfl) rfl rfl rfl rfl rfl rfl (fun w hL => hrea w (hS.at_ hL)) fun gr capr curr items hAr hIr => ?_; simp only [List.cons_append, List.nil_append]) | (refine s_callN Try.func115 (by kernel_rfl) rfl rfl rfl rfl rfl rfl (fun w hL => pairs_any RR items _ _ _ _ w (hL.at_ m0) hAr hIr (fun i hi => hL.at_ (List.mem_cons_of_mem _ (List.mem_cons_of_mem _ (itR_mem hi)))) (by omega) hr100) fun gc kc capc curc hAc => ?_))
      | (refine s_k 4 rfl ?_; first | refine s_boxA rfl rfl rfl rfl rfl fun blk => ?_ | refine s_box1 rfl rfl rfl rfl rfl rfl fun blk => ?_)
      | refine s_nil ?_)
    | (refine c_g ?_; first | refine c_seq ?_ | refine c_region ?_ | (refine c_gc ?_; first | refine c_cond1 rfl zTr ?_ | refine c_cond0 rfl zTr ?_ | refine z_condd1 rfl ?_ | refine z_condd0 rfl ?_ | refine z_conddn1 rfl ?_ | refine z_conddn0 rfl ?_ | refine c_condd rfl (fun hc => ?_) (fun hc => ?_) | refine c_conddn rfl (fun hc => ?_) (fun hc => ?_) | refine c_condn rfl (fun hc => ?_) (fun hc => ?_) | refine c_cond rfl (fun hc => ?_) (fun hc => ?_)) | refine c_block ?_ | refine c_skip ?_ | refine c_exit ?_ | refine c_ret ?_)
    | (refine e_g ?_; first | refine e_then ?_ | refine e_blkn ?_ | refine e_thenx ?_ | refine e_thenr ?_ | refine e_blkr ?_ | refine e_blkx ?_ | refine e_blky rfl ?_)
    | (refine e_ret2 (by simp) rfl (re_tmp rfl) (re_tmp rfl) fun w hL => NewS2.of hAc hL m0))
set_option maxRecDepth 100000 in
theorem implMpr_no (p : Nat → Int) (cs : Array Value) (v : Value) (L : List Sk) (w : World) (hp : Pv p cs) (hU : Sl w 3 v (L.map Sk.cells)) (hok : ∀ s ∈ L, s.ok) (hv : validStk p L = false) :
    Calls Try.prog 30 #[.agg cs, v] w fun e w' => e = .returned (.tuple #[.slice none 0 0, .int .i64 1]) ∧ Below w.heap.size w w' := by
  have hsz := hp.size
  have hkc := fun w' (hb : Below w.heap.size w w') => stakeCode_any p cs v L w' hp (hU.below hb) hok
  simp only [hv, Bool.false_eq_true, if_false] at hkc
  obtain ⟨A, cap, rfl, _, _, hS⟩ := hU.open
  refine enter2 Try.func30 rfl rfl rfl (Own.start w) ?_
  repeat' (first
    | (refine s_g ?_; first
      | (refine s_k 0 rfl ?_; refine s_val rfl rfl rfl (r_move rfl rfl) ?_)
      | (refine s_k 8 rfl ?_; first | (refine' s_val rfl rfl rfl (r_ldv rfl rfl ?qm ?qv) ?_; (case qm => (exact zMm)); (case qv => (exact zLe))) | (refine' s_val rfl rfl rfl (r_ldo rfl rfl ?qw (by simp) ?qv) ?_; (case qw => assumption); (case qv => (exact zLe))))
      | (refine s_k 1 rfl ?_; refine s_val rfl rfl rfl (r_assign rfl rfl) ?_)
      | (refine s_k 13 rfl ?_; refine s_val rfl rfl rfl (r_neq rfl rfl rfl) ?_)
      | (refine s_k 35 rfl ?_; (refine s_call Try.func101 (by kernel_rfl) rfl rfl rfl rfl rfl rfl (fun w hL => hkc w hL.toBelow) ?_))
      | (refine s_k 4 rfl ?_; first | refine s_boxA rfl rfl rfl rfl rfl fun blk => ?_ | refine s_box1 rfl rfl rfl rfl rfl rfl fun blk => ?_)
      | refine s_nil ?_)
    | (refine c_g ?_; first | refine c_seq ?_ | refine c_region ?_ | (refine c_gc ?_; first | refine c_cond1 rfl zTr ?_ | refine c_cond0 rfl zTr ?_ | refine z_condd1 rfl ?_ | refine z_condd0 rfl ?_ | refine z_conddn1 rfl ?_ | refine z_conddn0 rfl ?_ | refine c_condd rfl (fun hc => ?_) (fun hc => ?_) | refine c_conddn rfl (fun hc => ?_) (fun hc => ?_) | refine c_condn rfl (fun hc => ?_) (fun hc => ?_) | refine c_cond rfl (fun hc => ?_) (fun hc => ?_)) | refine c_block ?_ | refine c_skip ?_ | refine c_exit ?_ | refine c_ret ?_)
    | (refine e_g ?_; first | refine e_then ?_ | refine e_blkn ?_ | refine e_thenx ?_ | refine e_thenr ?_ | refine e_blkr ?_ | refine e_blkx ?_ | refine e_blky rfl ?_)
    | (refine e_ret2 (by simp) rfl (re_tmp rfl) (re_tmp rfl) fun w hL => ⟨rfl, hL.toBelow⟩))
/-! for the laws: of a slice made by the caller -/
section
variable (p : Nat → Int) (cs : Array Value) (L : List Sk) (g n cap : Nat) (cur : Array Value) (w : World)
theorem specMeetingPairs_new (hp : Pv p cs) (hok : ∀ s ∈ L, s.ok) (hv : validStk p L = true) (hA : Ap 3 n cap cur (L.map Sk.cells).flatten) (hg : w.heap[g]? = some (.cells cur 132 (0, 0))) : Calls Try.prog 29 #[.agg cs, .slice (some ⟨g, 0, none⟩) n cap] w (NewS2 152 2 (flPr (mpL p L)) 0 w) := specMpr_ok p cs _ L w hp (hA.toSl (lenSk L) (by omega) hg) hok hv
theorem implMeetingPairs_new (hp : Pv p cs) (hok : ∀ s ∈ L, s.ok) (hv : validStk p L = true) (hA : Ap 3 n cap cur (L.map Sk.cells).flatten) (hg : w.heap[g]? = some (.cells cur 132 (0, 0))) : Calls Try.prog 30 #[.agg cs, .slice (some ⟨g, 0, none⟩) n cap] w (NewS2 152 2 (flPr (mpL p L)) 0 w) := implMpr_ok p cs _ L w hp (hA.toSl (lenSk L) (by omega) hg) hok hv
theorem specMeetingPairs_nonew (hp : Pv p cs) (hok : ∀ s ∈ L, s.ok) (hv : validStk p L = false) (hA : Ap 3 n cap cur (L.map Sk.cells).flatten) (hg : w.heap[g]? = some (.cells cur 132 (0, 0))) : Calls Try.prog 29 #[.agg cs, .slice (some ⟨g, 0, none⟩) n cap] w (NewS2 152 2 (flPr []) 1 w) := specMpr_no p cs _ L w hp (hA.toSl (lenSk L) (by omega) hg) hok hv
theorem implMeetingPairs_nonew (hp : Pv p cs) (hok : ∀ s ∈ L, s.ok) (hv : validStk p L = false) (hA : Ap 3 n cap cur (L.map Sk.cells).flatten) (hg : w.heap[g]? = some (.cells cur 132 (0, 0))) : Calls Try.prog 30 #[.agg cs, .slice (some ⟨g, 0, none⟩) n cap] w fun e w' => e = .returned (.tuple #[.slice none 0 0, .int .i64 1]) ∧ Below w.heap.size w w' := implMpr_no p cs _ L w hp (hA.toSl (lenSk L) (by omega) hg) hok hv
end
end Go.Proofs.Ytpifngdmlmfnhaa
