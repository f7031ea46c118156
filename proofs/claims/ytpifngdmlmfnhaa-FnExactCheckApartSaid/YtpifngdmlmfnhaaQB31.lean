import Derived.Test.YtpifngdmlmfnhaaQB14
import Derived.Test.YtpifngdmlmfnhaaQB30
/- All pairs of lists of cells that meet: the program's. No condition but few lists. -/
namespace Go.Proofs.Ytpifngdmlmfnhaa
set_option linter.unusedVariables false
set_option linter.unusedSimpArgs false
open Go.RowKit Mem Wk
attribute [local irreducible] Calls Wk.S Wk.C Wk.E Wk.X Wk.T Wk.Y Wk.andV Wk.shrV Calm.wpLex CalmB.wpLex bfsN
theorem uPairS : Try.prog.underlying 47 = some (.slice 152) := by kernel_rfl
theorem iPair : (Try.prog.info? 152).map (fun i => (i.zero, i.size, i.bytes)) = some (some (.agg #[.int .i64 0, .int .i64 0]), 2, 16) := by kernel_rfl
theorem slPair0 (w : World) : (Instr.buildSlice 47 0 #[]).run Try.prog w = .ok (.slice (some ⟨w.heap.size, 0, none⟩) 0 0) (w.alloc (.cells #[] 152 (0, 0))) := by kernel_rfl
theorem slPair1 (a b : Value) (w : World) : (Instr.buildSlice 47 1 #[(0, .agg #[a, b])]).run Try.prog w = .ok (.slice (some ⟨w.heap.size, 0, none⟩) 1 1) (w.alloc (.cells #[a, b] 152 (0, 0))) := by kernel_rfl
theorem bPair (u v : Value) (hu : u.oneCell' = true) (hv : v.oneCell' = true) (w : World) : (Instr.build 152 #[(0, u), (1, v)]).run Try.prog w = .ok (.agg #[u, v]) w := by
  cases u <;> cases v <;> first | (simp [Value.oneCell'] at hu hv; done) | kernel_rfl
theorem it_get {S : List (List Sp)} {items : List (Nat × Nat × Array Value)} {w : World} {cap k : Nat} {cur : Array Value} {s : List Sp} (hA : Ap 1 S.length cap cur (itV S items)) (hI : ItOk S items) (hin : ∀ i ∈ items, w.heap[i.1]? = some (.cells i.2.2 88 (0, 0))) (hs : S[k]? = some s) : ∃ gi cpi cui, cur[0 + k * 1]? = some (.slice (some ⟨gi, 0, none⟩) s.length cpi) ∧ Ap 2 s.length cpi cui (flS s) ∧ w.heap[gi]? = some (.cells cui 88 (0, 0)) := by
  have hj := (List.getElem?_eq_some_iff.1 hs).1
  have hi : items[k]? = some (items[k]'(by rw [hI.len]; exact hj)) := List.getElem?_eq_getElem _
  have hv : (itV S items)[k]? = some (.slice (some ⟨(items[k]'(by rw [hI.len]; exact hj)).1, 0, none⟩) s.length (items[k]'(by rw [hI.len]; exact hj)).2.1) := by
    unfold itV; rw [List.getElem?_zipWith, hs, hi]
  exact ⟨_, _, _, (apV hA).2 k _ hv, hI.ap k s _ hs hi, hin _ (List.mem_of_getElem? hi)⟩
set_option maxRecDepth 100000 in
set_option maxHeartbeats 1600000 in
theorem pairs_any (S : List (List Sp)) (items : List (Nat × Nat × Array Value)) (g cap : Nat) (cur : Array Value) (T : TypeId) (w : World) (hg : w.heap[g]? = some (.cells cur T (0, 0))) (hA : Ap 1 S.length cap cur (itV S items)) (hI : ItOk S items) (hin : ∀ i ∈ items, w.heap[i.1]? = some (.cells i.2.2 88 (0, 0))) (hn : S.length ≤ 1048576) (hlen : ∀ s ∈ S, s.length ≤ 1048576) :
    Calls Try.prog 115 #[.slice (some ⟨g, 0, none⟩) S.length cap] w (NewS 152 2 (flPr (prAll (meetL S) S.length S.length)) w) := by
  have hMd : ∀ i k a b, S[i]? = some a → S[k]? = some b → meetL S i k = decide (0 < (cmnL a b).length) := fun i k a b h1 h2 => by
    unfold meetL; rw [List.getD_eq_getElem?_getD, List.getD_eq_getElem?_getD, h1, h2]; rfl
  generalize meetL S = M at *
  refine enter1 Try.func115 rfl rfl rfl (Own.start w) ?_
  repeat' (first
    | (refine s_g ?_; first
      | (refine s_k 0 rfl ?_; refine s_val rfl rfl rfl (r_move rfl rfl) ?_)
      | (refine s_k 8 rfl ?_; first | (refine' s_val rfl rfl rfl (r_ldv rfl rfl ?qm ?qv) ?_; (case qm => (exact zMm)); (case qv => (exact zLe))) | (refine' s_val rfl rfl rfl (r_ldo rfl rfl ?qw (by simp) ?qv) ?_; (case qw => assumption); (case qv => (exact zLe))))
      | (refine s_k 1 rfl ?_; refine s_val rfl rfl rfl (r_assign rfl rfl) ?_)
      | (refine s_k 13 rfl ?_; first | refine s_val rfl rfl rfl (r_lss rfl rfl rfl) ?_ | refine s_val rfl rfl rfl (r_add rfl rfl rfl (wrap_in (by simp only [lo, hi]; omega))) ?_ | refine s_val rfl rfl rfl (r_gtr rfl rfl rfl) ?_)
      | (refine s_k 25 rfl ?_; first | refine s_val rfl rfl rfl (r_ixN tb rfl rfl rfl rfl (by omega)) ?_ | refine s_val rfl rfl rfl (r_ixA tb rfl rfl rfl rfl (by omega) (by omega)) ?_ | refine s_val rfl rfl rfl (r_ixO tb rfl rfl rfl rfl (by omega)) ?_)
      | (refine s_k 36 rfl ?_; refine s_val rfl rfl rfl (r_len tb rfl rfl rfl) ?_)
      | (refine s_k 6 rfl ?_; refine s_bsl rfl rfl (fun w => slPair0 w) rfl rfl rfl fun blk => ?_)
      | refine s_nil ?_)
    | (refine c_g ?_; first | refine c_seq ?_ | refine c_region ?_ | (refine c_gc ?_; first | refine c_cond1 rfl zTr ?_ | refine c_cond0 rfl zTr ?_ | refine z_condd1 rfl ?_ | refine z_condd0 rfl ?_ | refine z_conddn1 rfl ?_ | refine z_conddn0 rfl ?_ | refine c_condd rfl (fun hc => ?_) (fun hc => ?_) | refine c_conddn rfl (fun hc => ?_) (fun hc => ?_) | refine c_condn rfl (fun hc => ?_) (fun hc => ?_) | refine c_cond rfl (fun hc => ?_) (fun hc => ?_)) | refine c_block ?_ | refine c_skip ?_ | refine c_exit ?_ | refine c_ret ?_)
    | (refine e_g ?_; first | refine e_then ?_ | refine e_blkn ?_ | refine e_thenx ?_ | refine e_thenr ?_ | refine e_blkr ?_ | refine e_blkx ?_ | refine e_blky rfl ?_))
  refine c_loop (ι := Nat × Nat × Nat × Array Value) (fun i => S.length - i.1) (fun i => i.1 ≤ S.length ∧ Ap 2 (prAll M S.length i.1).length i.2.2.1 i.2.2.2 (flPr (prAll M S.length i.1))) (fun i => [(10, .int .i64 (i.1 : Int)), (9, .int .i64 (S.length : Int)), (8, .slice (some ⟨g, 0, none⟩) S.length cap), (3, .slice (some ⟨i.2.1, 0, none⟩) (prAll M S.length i.1).length i.2.2.1), (0, .slice (some ⟨g, 0, none⟩) S.length cap)]) (fun i => [(i.2.1, 152, i.2.2.2)]) (0, blk, 0, #[]) ⟨by simp, by simpa [prAll, flPr] using Ap.nil 2⟩ ?hs rfl ?_
  case hs => (repeat' (first | exact sub_nil | refine sub_cons rfl ?_ | refine sub_cons' rfl (by simp [prAll]) ?_))
  rintro ⟨i, go, cpo, co⟩ ⟨hile, hAo⟩
  simp only at hile hAo ⊢
  have hpl := prAll_len M S.length i
  have hin2 : i * S.length ≤ 1048576 * 1048576 := Nat.mul_le_mul (by omega) hn
  by_cases hlt : i < S.length
  · have hxa : S[i]? = some S[i] := List.getElem?_eq_getElem hlt
    have hla := hlen _ (List.getElem_mem hlt)
    obtain ⟨ga, cpa, cua, hca, hAa, hga⟩ := it_get hA hI hin hxa
    have hr0 := prRow_start M i (i + 1) (Nat.le_refl _)
    have hal : prAll M S.length (i + 1) = prAll M S.length i ++ prRow M i S.length := rfl
    have hMi := fun k b h2 => hMd i k _ b hxa h2
    generalize S[i] = sa at *
    generalize prAll M S.length i = P at *
    repeat' (first
      | (refine s_g ?_; first
      | (refine s_k 0 rfl ?_; refine s_val rfl rfl rfl (r_move rfl rfl) ?_)
      | (refine s_k 8 rfl ?_; first | refine s_val rfl rfl rfl (r_ldo rfl rfl hg (by simp) (ldv1 tb rfl hca)) ?_ | (refine' s_val rfl rfl rfl (r_ldv rfl rfl ?qm ?qv) ?_; (case qm => (exact zMm)); (case qv => (exact zLe))) | (refine' s_val rfl rfl rfl (r_ldo rfl rfl ?qw (by simp) ?qv) ?_; (case qw => assumption); (case qv => (exact zLe))))
      | (refine s_k 1 rfl ?_; refine s_val rfl rfl rfl (r_assign rfl rfl) ?_)
      | (refine s_k 13 rfl ?_; first | refine s_val rfl rfl rfl (r_lss rfl rfl rfl) ?_ | refine s_val rfl rfl rfl (r_add rfl rfl rfl (wrap_in (by simp only [lo, hi]; omega))) ?_ | refine s_val rfl rfl rfl (r_gtr rfl rfl rfl) ?_)
      | (refine s_k 25 rfl ?_; first | refine s_val rfl rfl rfl (r_ixO tb rfl rfl rfl rfl hlt) ?_ | refine s_val rfl rfl rfl (r_ixN tb rfl rfl rfl rfl (by omega)) ?_ | refine s_val rfl rfl rfl (r_ixA tb rfl rfl rfl rfl (by omega) (by omega)) ?_ | refine s_val rfl rfl rfl (r_ixO tb rfl rfl rfl rfl (by omega)) ?_)
      | (refine s_k 36 rfl ?_; refine s_val rfl rfl rfl (r_len tb rfl rfl rfl) ?_)
      | refine s_nil ?_)
      | (refine c_g ?_; first | refine c_seq ?_ | refine c_region ?_ | (refine c_gc ?_; first | refine c_cond1 rfl zTr ?_ | refine c_cond0 rfl zTr ?_ | refine z_condd1 rfl ?_ | refine z_condd0 rfl ?_ | refine z_conddn1 rfl ?_ | refine z_conddn0 rfl ?_ | refine c_condd rfl (fun hc => ?_) (fun hc => ?_) | refine c_conddn rfl (fun hc => ?_) (fun hc => ?_) | refine c_condn rfl (fun hc => ?_) (fun hc => ?_) | refine c_cond rfl (fun hc => ?_) (fun hc => ?_)) | refine c_block ?_ | refine c_skip ?_ | refine c_exit ?_ | refine c_ret ?_)
      | (refine e_g ?_; first | refine e_then ?_ | refine e_blkn ?_ | refine e_thenx ?_ | refine e_thenr ?_ | refine e_blkr ?_ | refine e_blkx ?_ | refine e_blky rfl ?_))
    refine c_loop (ι := Nat × Nat × Nat × Array Value) (fun i => S.length - i.1) (fun j => i < j.1 ∧ j.1 ≤ S.length ∧ Ap 2 (P ++ prRow M i j.1).length j.2.2.1 j.2.2.2 (flPr (P ++ prRow M i j.1))) (fun j => [(6, .int .i64 (j.1 : Int)), (5, .slice (some ⟨ga, 0, none⟩) sa.length cpa), (4, .int .i64 (i : Int)), (10, .int .i64 (i : Int)), (9, .int .i64 (S.length : Int)), (8, .slice (some ⟨g, 0, none⟩) S.length cap), (3, .slice (some ⟨j.2.1, 0, none⟩) (P ++ prRow M i j.1).length j.2.2.1), (0, .slice (some ⟨g, 0, none⟩) S.length cap)]) (fun j => [(j.2.1, 152, j.2.2.2)]) (i + 1, go, cpo, co) ⟨by simp, by simp; omega, by simp only [hr0, List.append_nil]; exact hAo⟩ ?hs rfl ?_
    case hs => rw [hr0, List.append_nil]; (repeat' (first | exact sub_nil | refine sub_cons rfl ?_ | refine sub_cons' rfl (by simp) ?_))
    rintro ⟨k, go, cpo, co⟩ ⟨hik, hk, hAo⟩
    simp only at hik hk hAo ⊢
    have hrl := prRow_len M i k
    have hPr : (P ++ prRow M i k).length ≤ 1099512676352 := by rw [List.length_append]; omega
    by_cases hlk : k < S.length
    · have hxb : S[k]? = some S[k] := List.getElem?_eq_getElem hlk
      have hlb := hlen _ (List.getElem_mem hlk)
      obtain ⟨gb, cpb, cub, hcb, hAb, hgb⟩ := it_get hA hI hin hxb
      have hM := hMi k _ hxb
      generalize S[k] = sb at *
      have hcom := fun w hga hgb => common_any sa sb ga gb _ _ cpa cpb cua cub 88 88 w hAa hga hAb hgb hla hlb
      by_cases hm : 0 < (cmnL sa sb).length
      case' pos => have hsn : P ++ prRow M i (k + 1) = P ++ prRow M i k ++ [(i, k)] := by rw [prRow_yes hik (hM.trans (decide_eq_true hm)), List.append_assoc]
      case' neg => have hsn : P ++ prRow M i (k + 1) = P ++ prRow M i k := by rw [prRow_no (i := i) (hM.trans (decide_eq_false hm))]
      all_goals
        generalize cmnL sa sb = Cm at *
        generalize P ++ prRow M i k = PP at *
        repeat' (first
          | (refine s_g ?_; first
      | (refine s_k 0 rfl ?_; refine s_val rfl rfl rfl (r_move rfl rfl) ?_)
      | (refine s_k 8 rfl ?_; first | refine s_val rfl rfl rfl (r_ldo rfl rfl hg (by simp) (ldv1 tb rfl hcb)) ?_ | (refine' s_val rfl rfl rfl (r_ldv rfl rfl ?qm ?qv) ?_; (case qm => (exact zMm)); (case qv => (exact zLe))) | (refine' s_val rfl rfl rfl (r_ldo rfl rfl ?qw (by simp) ?qv) ?_; (case qw => assumption); (case qv => (exact zLe))))
      | (refine s_k 1 rfl ?_; refine s_val rfl rfl rfl (r_assign rfl rfl) ?_)
      | (refine s_k 13 rfl ?_; first | refine s_val rfl rfl rfl (r_lss rfl rfl rfl) ?_ | refine s_val rfl rfl rfl (r_add rfl rfl rfl (wrap_in (by simp only [lo, hi]; omega))) ?_ | refine s_val rfl rfl rfl (r_gtr rfl rfl rfl) ?_)
      | (refine s_k 35 rfl ?_; (refine s_callN Try.func106 (by kernel_rfl) rfl rfl rfl rfl rfl rfl (fun w hL => hcom w (Kn.old hL hga (by simp)) (Kn.old hL hgb (by simp))) fun gc kc cpc cuc hAc => ?_; obtain rfl := hAc.cnt))
      | (refine s_k 25 rfl ?_; first | refine s_val rfl rfl rfl (r_ixO tb rfl rfl rfl rfl hlk) ?_ | refine s_val rfl rfl rfl (r_ixN tb rfl rfl rfl rfl (by omega)) ?_ | refine s_val rfl rfl rfl (r_ixA tb rfl rfl rfl rfl (by omega) (by omega)) ?_ | refine s_val rfl rfl rfl (r_ixO tb rfl rfl rfl rfl (by omega)) ?_)
      | (refine s_k 36 rfl ?_; first | refine s_app1 hAo rfl rfl rfl uPairS iPair rfl (by omega) (by simp) (by simp) rfl (by simp [Value.oneCell']) (by unfold maxLen; omega) (by omega) rfl rfl rfl fun g' cap' cur' hA' => ?_ | refine s_val rfl rfl rfl (r_len tb rfl rfl rfl) ?_)
      | (refine s_k 5 rfl ?_; refine s_val rfl rfl rfl (r_build rfl rfl (fun w => bPair _ _ rfl rfl w)) ?_)
      | (refine s_k 6 rfl ?_; refine s_bsl rfl rfl (fun w => slPair1 _ _ w) rfl rfl rfl fun blk => ?_)
      | refine s_nil ?_)
          | (refine c_g ?_; first | refine c_seq ?_ | refine c_region ?_ | (refine c_gc ?_; first | refine c_cond1 rfl zTr ?_ | refine c_cond0 rfl zTr ?_ | refine z_condd1 rfl ?_ | refine z_condd0 rfl ?_ | refine z_conddn1 rfl ?_ | refine z_conddn0 rfl ?_ | refine c_condd rfl (fun hc => ?_) (fun hc => ?_) | refine c_conddn rfl (fun hc => ?_) (fun hc => ?_) | refine c_condn rfl (fun hc => ?_) (fun hc => ?_) | refine c_cond rfl (fun hc => ?_) (fun hc => ?_)) | refine c_block ?_ | refine c_skip ?_ | refine c_exit ?_ | refine c_ret ?_)
          | (refine e_g ?_; first | refine e_then ?_ | refine e_blkn ?_ | refine e_thenx ?_ | refine e_thenr ?_ | refine e_blkr ?_ | refine e_blkx ?_ | refine e_blky rfl ?_)
          | (refine e_drop0 (e_round (k + 1, g', cap', cur') (by simp; omega) ⟨by simp; omega, by simp; omega, by simp only; rw [hsn, flPr_snoc]; simpa [prC] using hA'⟩ ?_ rfl))
          | (refine e_drop0 (e_round (k + 1, go, cpo, co) (by simp; omega) ⟨by simp; omega, by simp; omega, by simp only; rw [hsn]; exact hAo⟩ ?_ rfl)))
        all_goals (rw [hsn]; (repeat' (first | exact sub_nil | refine sub_cons rfl ?_ | refine sub_cons' rfl (by simp) ?_ | refine sub_cons' rfl (by simp [Nat.add_assoc]) ?_)))
    · have hkn : k = S.length := by omega
      subst hkn
      rw [← hal] at hAo ⊢
      repeat' (first
        | (refine s_g ?_; first
      | (refine s_k 0 rfl ?_; refine s_val rfl rfl rfl (r_move rfl rfl) ?_)
      | (refine s_k 8 rfl ?_; first | (refine' s_val rfl rfl rfl (r_ldv rfl rfl ?qm ?qv) ?_; (case qm => (exact zMm)); (case qv => (exact zLe))) | (refine' s_val rfl rfl rfl (r_ldo rfl rfl ?qw (by simp) ?qv) ?_; (case qw => assumption); (case qv => (exact zLe))))
      | (refine s_k 1 rfl ?_; refine s_val rfl rfl rfl (r_assign rfl rfl) ?_)
      | (refine s_k 13 rfl ?_; first | refine s_val rfl rfl rfl (r_lss rfl rfl rfl) ?_ | refine s_val rfl rfl rfl (r_add rfl rfl rfl (wrap_in (by simp only [lo, hi]; omega))) ?_ | refine s_val rfl rfl rfl (r_gtr rfl rfl rfl) ?_)
      | (refine s_k 25 rfl ?_; first | refine s_val rfl rfl rfl (r_ixN tb rfl rfl rfl rfl (by omega)) ?_ | refine s_val rfl rfl rfl (r_ixA tb rfl rfl rfl rfl (by omega) (by omega)) ?_ | refine s_val rfl rfl rfl (r_ixO tb rfl rfl rfl rfl (by omega)) ?_)
      | (refine s_k 36 rfl ?_; refine s_val rfl rfl rfl (r_len tb rfl rfl rfl) ?_)
      | refine s_nil ?_)
        | (refine c_g ?_; first | refine c_seq ?_ | refine c_region ?_ | (refine c_gc ?_; first | refine c_cond1 rfl zTr ?_ | refine c_cond0 rfl zTr ?_ | refine z_condd1 rfl ?_ | refine z_condd0 rfl ?_ | refine z_conddn1 rfl ?_ | refine z_conddn0 rfl ?_ | refine c_condd rfl (fun hc => ?_) (fun hc => ?_) | refine c_conddn rfl (fun hc => ?_) (fun hc => ?_) | refine c_condn rfl (fun hc => ?_) (fun hc => ?_) | refine c_cond rfl (fun hc => ?_) (fun hc => ?_)) | refine c_block ?_ | refine c_skip ?_ | refine c_exit ?_ | refine c_ret ?_)
        | (refine e_g ?_; first | refine e_then ?_ | refine e_blkn ?_ | refine e_thenx ?_ | refine e_thenr ?_ | refine e_blkr ?_ | refine e_blkx ?_ | refine e_blky rfl ?_)
        | (refine e_round (i + 1, go, cpo, co) (by simp; omega) ⟨by simp; omega, hAo⟩ ?_ rfl))
      all_goals (repeat' (first | exact sub_nil | refine sub_cons rfl ?_))
  · have hin3 : i = S.length := by omega
    subst hin3
    repeat' (first
      | (refine s_g ?_; first
      | (refine s_k 0 rfl ?_; refine s_val rfl rfl rfl (r_move rfl rfl) ?_)
      | (refine s_k 8 rfl ?_; first | (refine' s_val rfl rfl rfl (r_ldv rfl rfl ?qm ?qv) ?_; (case qm => (exact zMm)); (case qv => (exact zLe))) | (refine' s_val rfl rfl rfl (r_ldo rfl rfl ?qw (by simp) ?qv) ?_; (case qw => assumption); (case qv => (exact zLe))))
      | (refine s_k 1 rfl ?_; refine s_val rfl rfl rfl (r_assign rfl rfl) ?_)
      | (refine s_k 13 rfl ?_; first | refine s_val rfl rfl rfl (r_lss rfl rfl rfl) ?_ | refine s_val rfl rfl rfl (r_add rfl rfl rfl (wrap_in (by simp only [lo, hi]; omega))) ?_ | refine s_val rfl rfl rfl (r_gtr rfl rfl rfl) ?_)
      | (refine s_k 25 rfl ?_; first | refine s_val rfl rfl rfl (r_ixN tb rfl rfl rfl rfl (by omega)) ?_ | refine s_val rfl rfl rfl (r_ixA tb rfl rfl rfl rfl (by omega) (by omega)) ?_ | refine s_val rfl rfl rfl (r_ixO tb rfl rfl rfl rfl (by omega)) ?_)
      | (refine s_k 36 rfl ?_; refine s_val rfl rfl rfl (r_len tb rfl rfl rfl) ?_)
      | refine s_nil ?_)
      | (refine c_g ?_; first | refine c_seq ?_ | refine c_region ?_ | (refine c_gc ?_; first | refine c_cond1 rfl zTr ?_ | refine c_cond0 rfl zTr ?_ | refine z_condd1 rfl ?_ | refine z_condd0 rfl ?_ | refine z_conddn1 rfl ?_ | refine z_conddn0 rfl ?_ | refine c_condd rfl (fun hc => ?_) (fun hc => ?_) | refine c_conddn rfl (fun hc => ?_) (fun hc => ?_) | refine c_condn rfl (fun hc => ?_) (fun hc => ?_) | refine c_cond rfl (fun hc => ?_) (fun hc => ?_)) | refine c_block ?_ | refine c_skip ?_ | refine c_exit ?_ | refine c_ret ?_)
      | (refine e_g ?_; first | refine e_then ?_ | refine e_blkn ?_ | refine e_thenx ?_ | refine e_thenr ?_ | refine e_blkr ?_ | refine e_blkx ?_ | refine e_blky rfl ?_)
      | (refine e_ret1 (by simp) rfl (re_tmp rfl) fun w hL => NewS.of hAo hL m0))
end Go.Proofs.Ytpifngdmlmfnhaa
/- UncoveredBy, SharedCells: the program's. No condition. -/
namespace Go.Proofs.Ytpifngdmlmfnhaa
set_option linter.unusedVariables false
set_option linter.unusedSimpArgs false
open Go.RowKit Mem Wk
theorem s_callSS {P : Program} {ops : Array Oper} {Q : Exit → Act → World → Prop} {n : Nat} {O : List Nat} {w0 : World} {o : Oper} {rest : List Oper} {l : List (Nat × Value)} {L : List (Nat × TypeId × Array Value)} {f : FuncId} {fn : Func} {xs : Array Operand} {ts : Array TypeId} {vs : List Value} {d : Nat} {S : List (List Sp)} (hf : P.funcs[f]? = some fn) (hname : (fn.name == "runtime.NumGoroutine") = false) (hb : fn.body.isSome = true) (hg : o.guard = none) (hd : o.dst = some d) (hn : Nat.blt d n = true)
    (hop : o.op = .call { callee := .value (.func f), args := xs, argTypes := ts }) (hargs : evs l xs.toList = some vs) (hc : ∀ w, Kn O w0 w L → Calls P f vs.toArray w (NewSS S w)) (h : ∀ g cap cur items, Ap 1 S.length cap cur (itV S items) → ItOk S items → Wk.S P ops Q n O w0 rest ((d, .slice (some ⟨g, 0, none⟩) S.length cap) :: l) ((g, 40, cur) :: (L ++ itR items))) : Wk.S P ops Q n O w0 (o :: rest) l L :=
  s_callR (ι := Nat × Nat × Array Value × List (Nat × Nat × Array Value)) (fun i => Ap 1 S.length i.2.1 i.2.2.1 (itV S i.2.2.2) ∧ ItOk S i.2.2.2) (fun i => .slice (some ⟨i.1, 0, none⟩) S.length i.2.1) (fun i => (i.1, 40, i.2.2.1) :: (L ++ itR i.2.2.2)) hf hname hb hg hd hn hop hargs
    (fun w hL => (hc w hL).mono fun e w' ⟨g, cap, cur, items, he, hA, hI, hN⟩ => ⟨(g, cap, cur, items), ⟨hA, hI⟩, he, Kn.perm (Kn.app hL hN) (List.Perm.cons _ List.perm_append_comm)⟩) (fun ⟨g, cap, cur, items⟩ ⟨hA, hI⟩ => h g cap cur items hA hI)
attribute [local irreducible] Calls Wk.S Wk.C Wk.E Wk.X Wk.T Wk.Y Wk.andV Wk.shrV Calm.wpLex CalmB.wpLex bfsN
/-! for the laws: of a slice made by the caller -/
section
variable (p : Nat → Int) (cs : Array Value) (L : List Sk) (g n cap : Nat) (cur : Array Value) (w : World)
end
end Go.Proofs.Ytpifngdmlmfnhaa
