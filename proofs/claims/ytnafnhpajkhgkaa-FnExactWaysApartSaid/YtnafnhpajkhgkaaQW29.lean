import Derived.Test.YtnafnhpajkhgkaaQW13
import Derived.Test.YtnafnhpajkhgkaaQW19
import Derived.Test.YtnafnhpajkhgkaaQW22
import Derived.Test.YtnafnhpajkhgkaaQW23
import Derived.Test.YtnafnhpajkhgkaaQW28
/- The program's way from a cell along a table of steps. A pasture of at most ten by ten. -/
namespace Go.Proofs.Ytnafnhpajkhgkaa
set_option linter.unusedVariables false
set_option linter.unusedSimpArgs false
open Go.RowKit Mem Wk
attribute [local irreducible] Calls Wk.S Wk.C Wk.E Wk.X Wk.T Wk.anV Wk.orV Wk.andV Wk.shlV Wk.shrV Calm.wpLex bfsN stepsP bfs
/-- the cell behind i steps -/
def itW (p : Nat → Int) (D : Nat → Int) (s : Sp) : Nat → Sp
  | 0 => s
  | i + 1 => pickW p D (itW p D s i)
theorem itW_shift (p : Nat → Int) (D : Nat → Int) (s : Sp) : ∀ i, itW p D (pickW p D s) i = itW p D s (i + 1)
  | 0 => rfl
  | i + 1 => by show pickW p D (itW p D (pickW p D s) i) = pickW p D (itW p D s (i + 1)); rw [itW_shift p D s i]
def gwT (p : Nat → Int) (D : Nat → Int) (s : Sp) (i : Nat) : List Sp := (List.range (i + 1)).map (itW p D s)
theorem gwT_succ (p : Nat → Int) (D : Nat → Int) (s : Sp) (i : Nat) : gwT p D s (i + 1) = gwT p D s i ++ [itW p D s (i + 1)] := by
  unfold gwT; rw [List.range_succ, List.map_append]; rfl
theorem gw_T (p : Nat → Int) (D : Nat → Int) : ∀ (k : Nat) (s : Sp), gw p D k s = gwT p D s k
  | 0, s => rfl
  | k + 1, s => by
    rw [gw, gw_T p D k (pickW p D s)]
    unfold gwT
    rw [List.range_succ_eq_map (n := k + 1), List.map_cons, List.map_map]
    congr 1
    refine List.map_congr_left fun i _ => ?_
    exact itW_shift p D s i
section
variable {p : Nat → Int} {B : List Sp}
theorem itW_step (hB : ∀ c ∈ B, cel p c) {k : Nat} {s : Sp} (hs : cel p s) (h : (stepsP p B).1 (ci s) = (k : Int) + 1) : ∀ i, i ≤ k → cel p (itW p (stepsP p B).1 s i) ∧ (stepsP p B).1 (ci (itW p (stepsP p B).1 s i)) = (k : Int) + 1 - i
  | 0, _ => ⟨hs, by show (stepsP p B).1 (ci s) = _; omega⟩
  | i + 1, hi => by
    have ih := itW_step hB hs h i (by omega)
    have hp := near_ex hB ih.1 (by rw [ih.2]; omega)
    exact ⟨nbP_cel hp.1, by show (stepsP p B).1 (ci (pickW p _ _)) = _; rw [hp.2, ih.2]; omega⟩
theorem near_cons (hB : ∀ c ∈ B, cel p c) {s : Sp} (hs : cel p s) (h : 1 < (stepsP p B).1 (ci s)) : ∃ c t, nearL p (stepsP p B).1 s = c :: t ∧ pickW p (stepsP p B).1 s = minS c t := by
  have hp := near_ex hB hs h
  have hm := mem_near.2 hp
  unfold pickW
  cases hl : nearL p (stepsP p B).1 s with
  | nil => unfold pickW at hm; rw [hl] at hm; cases hm
  | cons c t => exact ⟨c, t, rfl, rfl⟩
end
set_option maxRecDepth 100000 in
theorem wayClo_any (D : Nat → Int) (tab : Array Value) (T Tf Ts : TypeId) (gt gf gs : Nat) (c s : Sp) (w : World) (hT : GI .i16 1 D tab) (hD : ∀ j, 0 ≤ D j ∧ D j ≤ 101) (hg : w.heap[gt]? = some (.cells tab T (0, 0))) (hf : w.heap[gf]? = some (.cells #[.pointer (some ⟨gt, 0, none⟩)] Tf (0, 0))) (hs : w.heap[gs]? = some (.cells #[.int .i8 s.x, .int .i8 s.y] Ts (0, 0))) (hc : inR c) (hsr : inR s) :
    Calls Try.prog 85 #[.agg #[.int .i8 c.x, .int .i8 c.y], .pointer (some ⟨gf, 0, none⟩), .pointer (some ⟨gs, 0, none⟩)] w fun e w' => e = .returned (.bool (!decide (D (ci c) = D (ci s) - 1))) ∧ Below w.heap.size w w' := by
  have hat1 := fun w hg => farAt_any D tab T gt c.x c.y w hT hD hg ⟨hc.1, hc.2.1⟩ hc.2.2
  have hat2 := fun w hg => farAt_any D tab T gt s.x s.y w hT hD hg ⟨hsr.1, hsr.2.1⟩ hsr.2.2
  have h1 := hD (ci c)
  have h2 := hD (ci s)
  have e1 : (⟨c.x, c.y⟩ : Sp) = c := rfl
  have e2 : (⟨s.x, s.y⟩ : Sp) = s := rfl
  rw [e1] at hat1; rw [e2] at hat2
  generalize D (ci c) = dc at *
  generalize D (ci s) = ds at *
  refine enter3 Try.func85 rfl rfl rfl (Own.start w) ?_
  repeat' (first
    | (refine s_g ?_; first
      | (refine s_k 8 rfl ?_; first | refine s_val rfl rfl rfl (r_ldo rfl rfl hf (by simp) (ldv1 tb rfl rfl)) ?_ | refine s_val rfl rfl rfl (r_ldo rfl rfl hs (by simp) (ldvM tb rfl ext2_0 rfl)) ?_ | refine s_val rfl rfl rfl (r_ldo rfl rfl hs (by simp) (ldvW tb rfl rfl)) ?_ | (refine' s_val rfl rfl rfl (r_ldv rfl rfl ?qm ?qv) ?_; (case qm => (exact zMm)); (case qv => (first | exact ldvL tb rfl rfl | exact ldv1 tb rfl (by assumption) | exact ldvW tb rfl rfl | exact ldvW tb rfl (by assumption) | exact ldvW tb rfl (Pv.size (by assumption)) | exact ldvN tb rfl ext2_0 rfl | exact ldvN tb rfl ext2_2 rfl))) | (refine' s_val rfl rfl rfl (r_ldo rfl rfl ?qw (by simp) ?qv) ?_; (case qw => assumption); (case qv => (first | exact ldvL tb rfl rfl | exact ldv1 tb rfl (by assumption) | exact ldvW tb rfl rfl | exact ldvW tb rfl (by assumption) | exact ldvW tb rfl (Pv.size (by assumption)) | exact ldvN tb rfl ext2_0 rfl | exact ldvN tb rfl ext2_2 rfl))))
      | (refine s_k 1 rfl ?_; refine s_val rfl rfl rfl (r_assign rfl rfl) ?_)
      | (refine s_k 13 rfl ?_; first | refine s_val rfl rfl rfl (r_neq rfl rfl rfl) ?_ | refine s_val rfl rfl rfl (r_sub rfl rfl rfl (wrap_in (by simp only [lo, hi]; omega))) ?_)
      | (refine s_k 35 rfl ?_; first | (refine s_call Try.func42 (by kernel_rfl) rfl rfl rfl rfl rfl rfl (fun w hL => hat1 w (Kn.old hL hg (by simp))) ?_) | (refine s_call Try.func42 (by kernel_rfl) rfl rfl rfl rfl rfl rfl (fun w hL => hat2 w (Kn.old hL hg (by simp))) ?_))
      | (refine s_k 4 rfl ?_; first | refine s_boxA rfl rfl rfl rfl rfl fun blk => ?_ | refine s_box1 rfl rfl rfl rfl rfl rfl fun blk => ?_)
      | refine s_nil ?_)
    | (refine c_g ?_; first | refine c_seq ?_ | refine c_region ?_ | (refine c_gc ?_; first | refine c_cond1 rfl zTr ?_ | refine c_cond0 rfl zTr ?_ | refine z_condd1 rfl ?_ | refine z_condd0 rfl ?_ | refine z_conddn1 rfl ?_ | refine z_conddn0 rfl ?_ | refine c_condd rfl (fun hc => ?_) (fun hc => ?_) | refine c_conddn rfl (fun hc => ?_) (fun hc => ?_) | refine c_condn rfl (fun hc => ?_) (fun hc => ?_) | refine c_cond rfl (fun hc => ?_) (fun hc => ?_)) | refine c_block ?_ | refine c_skip ?_ | refine c_exit ?_ | refine c_ret ?_)
    | (refine e_g ?_; first | refine e_then ?_ | refine e_blkn ?_ | refine e_thenx ?_ | refine e_thenr ?_ | refine e_blkr ?_ | refine e_blkx ?_ | refine e_blky rfl ?_)
    | (refine x_g ?_; first
      | (refine x_k 8 rfl ?_; first | (refine x_val rfl rfl rfl (r_ldo rfl rfl hf (by simp) (ldv1 tb rfl rfl)) ?hp ?_; (case hp => exact rfl)) | (refine x_val rfl rfl rfl (r_ldo rfl rfl hs (by simp) (ldvM tb rfl ext2_0 rfl)) ?hp ?_; (case hp => exact rfl)) | (refine x_val rfl rfl rfl (r_ldo rfl rfl hs (by simp) (ldvW tb rfl rfl)) ?hp ?_; (case hp => exact rfl)) | (refine' x_val rfl rfl rfl (r_ldv rfl rfl ?qm ?qv) ?hp ?_; (case qm => (exact zMm)); (case qv => (first | exact ldvL tb rfl rfl | exact ldv1 tb rfl (by assumption) | exact ldvW tb rfl rfl | exact ldvW tb rfl (by assumption) | exact ldvW tb rfl (Pv.size (by assumption)) | exact ldvN tb rfl ext2_0 rfl | exact ldvN tb rfl ext2_2 rfl)); (case hp => exact rfl)) | (refine' x_val rfl rfl rfl (r_ldo rfl rfl ?qw (by simp) ?qv) ?hp ?_; (case qw => assumption); (case qv => (first | exact ldvL tb rfl rfl | exact ldv1 tb rfl (by assumption) | exact ldvW tb rfl rfl | exact ldvW tb rfl (by assumption) | exact ldvW tb rfl (Pv.size (by assumption)) | exact ldvN tb rfl ext2_0 rfl | exact ldvN tb rfl ext2_2 rfl)); (case hp => exact rfl)))
      | (refine x_k 1 rfl ?_; (refine x_val rfl rfl rfl (r_assign rfl rfl) ?hp ?_; (case hp => exact rfl)))
      | (refine x_k 13 rfl ?_; first | (refine x_val rfl rfl rfl (r_neq rfl rfl rfl) ?hp ?_; (case hp => exact rfl)) | (refine x_val rfl rfl rfl (r_sub rfl rfl rfl (wrap_in (by simp only [lo, hi]; omega))) ?hp ?_; (case hp => exact rfl)))
      | (refine x_k 35 rfl ?_; first | (refine x_call Try.func42 (by kernel_rfl) rfl rfl rfl rfl rfl rfl (fun w hL => hat1 w (Kn.old hL hg (by simp))) ?hp ?_; (case hp => exact rfl)) | (refine x_call Try.func42 (by kernel_rfl) rfl rfl rfl rfl rfl rfl (fun w hL => hat2 w (Kn.old hL hg (by simp))) ?hp ?_; (case hp => exact rfl)))
      | (refine x_k 4 rfl ?_; (refine x_boxA rfl rfl rfl rfl rfl ?hp (fun blk => ?_); (case hp => exact rfl)))
      | refine x_nil0 ?_
      | refine x_nil ?_)
    | (refine' c_drawX (id := 1) [(Sum.inl _ : Calm.Plan), (Sum.inl _ : Calm.Plan), (Sum.inl _ : Calm.Plan), (Sum.inl _ : Calm.Plan), (Sum.inl _ : Calm.Plan), (Sum.inl _ : Calm.Plan), (Sum.inl _ : Calm.Plan), (Sum.inl _ : Calm.Plan), (Sum.inl _ : Calm.Plan)] (by kernel_rfl) (by kernel_rfl) (by kernel_rfl) ?_)
    | (refine e_ret1 (by simp) rfl (re_tmp rfl) fun w hL => ⟨?_, hL.toBelow⟩))
  all_goals (congr 3; rw [Bool.eq_iff_iff]; simp)
set_option maxRecDepth 100000 in
set_option maxHeartbeats 1600000 in
theorem way_any (p : Nat → Int) (cs : Array Value) (B : List Sp) (s : Sp) (k : Nat) (tab : Array Value) (T : TypeId) (gt : Nat) (w : World) (hp : Pv p cs) (hB : ∀ c ∈ B, cel p c) (hT : GI .i16 1 (stepsP p B).1 tab) (hg0 : w.heap[gt]? = some (.cells tab T (0, 0))) (hs : cel p s) (hk : (stepsP p B).1 (ci s) = (k : Int) + 1) :
    Calls Try.prog 43 #[.agg cs, .agg #[.int .i8 s.x, .int .i8 s.y], .pointer (some ⟨gt, 0, none⟩)] w (NewS 52 2 (flS (gw p (stepsP p B).1 k s)) w) := by
  have hsz := hp.size
  have hlt0 := (Array.getElem?_eq_some_iff.1 hg0).1
  have hBr := celR hB
  have hval := stepsP_val p hBr
  have hkl : k ≤ 100 := by have := hval (ci s); omega
  have hst := itW_step hB hs hk
  have hnc := fun i (hi : i < k) => near_cons hB (hst i (by omega)).1 (by rw [(hst i (by omega)).2]; omega)
  have hnl : ∀ c, nearL p (stepsP p B).1 c = (nbP p c).filter fun d => !(!decide ((stepsP p B).1 (ci d) = (stepsP p B).1 (ci c) - 1)) := fun c => by unfold nearL; congr 1; funext d; simp
  rw [gw_T]
  generalize (stepsP p B).1 = D at *
  refine enter3 Try.func43 rfl rfl rfl (Own.start w) ?_
  repeat' (first
    | (refine s_g ?_; first
      | (refine s_k 0 rfl ?_; refine s_val rfl rfl rfl (r_move rfl rfl) ?_)
      | (refine s_k 8 rfl ?_; first | (refine' s_val rfl rfl rfl (r_ldv rfl rfl ?qm ?qv) ?_; (case qm => (exact zMm)); (case qv => (first | exact ldvL tb rfl rfl | exact ldv1 tb rfl (by assumption) | exact ldvW tb rfl rfl | exact ldvW tb rfl (by assumption) | exact ldvW tb rfl (Pv.size (by assumption)) | exact ldvN tb rfl ext2_0 rfl | exact ldvN tb rfl ext2_2 rfl))) | (refine' s_val rfl rfl rfl (r_ldo rfl rfl ?qw (by simp) ?qv) ?_; (case qw => assumption); (case qv => (first | exact ldvL tb rfl rfl | exact ldv1 tb rfl (by assumption) | exact ldvW tb rfl rfl | exact ldvW tb rfl (by assumption) | exact ldvW tb rfl (Pv.size (by assumption)) | exact ldvN tb rfl ext2_0 rfl | exact ldvN tb rfl ext2_2 rfl))))
      | (refine s_k 1 rfl ?_; refine s_val rfl rfl rfl (r_assign rfl rfl) ?_)
      | (refine s_k 13 rfl ?_; refine s_val rfl rfl rfl (r_gtr rfl rfl rfl) ?_)
      | (refine s_k 4 rfl ?_; first | refine s_boxA rfl rfl rfl rfl rfl fun blk => ?_ | refine s_box1 rfl rfl rfl rfl rfl rfl fun blk => ?_)
      | (refine s_k 9 rfl ?_; (first | refine s_st1 tb rfl rfl rfl rfl rfl rfl rfl rfl ?_ | refine s_stA tb rfl rfl rfl rfl (by first | rfl | assumption | (apply Pv.size; assumption)) rfl rfl ?_); (first | refine' st0 ?qs ?_ | refine' st1 ?qs ?_ | refine' st2 ?qs ?_ | refine' st3 ?qs ?_ | refine' st4 ?qs ?_ | refine' st5 ?qs ?_ | refine' st6 ?qs ?_ | refine' st7 ?qs ?_ | refine' st8 ?qs ?_ | refine' st9 ?qs ?_ | refine' st10 ?qs ?_ | refine' st11 ?qs ?_); (case qs => (first | exact zSet)))
      | (refine s_k 18 rfl ?_; refine s_val rfl rfl rfl (r_func rfl rfl rfl) ?_)
      | (refine s_k 6 rfl ?_; refine s_bsl rfl rfl (fun w => slSpot1 _ _ w) rfl rfl rfl fun blk => ?_)
      | refine s_nil ?_)
    | (refine c_g ?_; first | refine c_seq ?_ | refine c_region ?_ | (refine c_gc ?_; first | refine c_cond1 rfl zTr ?_ | refine c_cond0 rfl zTr ?_ | refine z_condd1 rfl ?_ | refine z_condd0 rfl ?_ | refine z_conddn1 rfl ?_ | refine z_conddn0 rfl ?_ | refine c_condd rfl (fun hc => ?_) (fun hc => ?_) | refine c_conddn rfl (fun hc => ?_) (fun hc => ?_) | refine c_condn rfl (fun hc => ?_) (fun hc => ?_) | refine c_cond rfl (fun hc => ?_) (fun hc => ?_)) | refine c_block ?_ | refine c_skip ?_ | refine c_exit ?_ | refine c_ret ?_)
    | (refine e_g ?_; first | refine e_then ?_ | refine e_blkn ?_ | refine e_thenx ?_ | refine e_thenr ?_ | refine e_blkr ?_ | refine e_blkx ?_ | refine e_blky rfl ?_))
  rename_i b3 b4 b5
  refine c_loop (ι := Nat × Nat × Nat × Array Value) (fun i => k - i.1) (fun i => i.1 ≤ k ∧ Ap 2 (i.1 + 1) i.2.2.1 i.2.2.2 (flS (gwT p D s i.1))) (fun i => [(7, .slice (some ⟨i.2.1, 0, none⟩) (i.1 + 1) i.2.2.1), (5, .pointer (some ⟨b5, 0, none⟩)), (4, .pointer (some ⟨b4, 0, none⟩)), (3, .pointer (some ⟨b3, 0, none⟩))]) (fun i => [(i.2.1, 52, i.2.2.2), (b5, 82, #[.pointer (some ⟨gt, 0, none⟩)]), (b4, 52, #[.int .i8 (itW p D s i.1).x, .int .i8 (itW p D s i.1).y]), (b3, 32, cs)]) (0, blk, 1, #[.int .i8 s.x, .int .i8 s.y]) ⟨by simp, ⟨rfl, Nat.le_refl _, by simp only; unfold maxLen; omega, rfl, rfl⟩⟩ ?hs rfl ?_
  case hs => (repeat' (first | exact sub_nil | refine sub_cons rfl ?_))
  rintro ⟨i, g, cap, cur⟩ ⟨hi, hA⟩
  simp only at hi hA ⊢
  obtain ⟨hcc, hDc⟩ := hst i hi
  have hcR := isC_range hcc
  have hgs := gwT_succ p D s i
  have hat := fun w hg => farAt_any D tab T gt (itW p D s i).x (itW p D s i).y w hT hval hg ⟨hcR.1, hcR.2.1⟩ hcR.2.2
  have hbes := fun w => beside_any p cs (itW p D s i).x (itW p D s i).y w hp ⟨hcR.1, hcR.2.1⟩ hcR.2.2
  have hnb : besL p (itW p D s i).x (itW p D s i).y 4 = nbP p (itW p D s i) := rfl
  rw [hnb] at hbes
  have hat2 : ∀ w, w.heap[gt]? = some (.cells tab T (0, 0)) → Calls Try.prog 42 #[.pointer (some ⟨gt, 0, none⟩), .agg #[.int .i8 (itW p D s i).x, .int .i8 (itW p D s i).y]] w fun e w' => e = .returned (.int .i64 ((k : Int) - i)) ∧ Below w.heap.size w w' := fun w hg => by
    have h := hat w hg
    rw [show D (ci ⟨(itW p D s i).x, (itW p D s i).y⟩) - 1 = (k : Int) - i by show D (ci (itW p D s i)) - 1 = _; rw [hDc]; omega] at h
    exact h
  by_cases hlt : i < k
  · obtain ⟨c0, t0, hl0, hpk⟩ := hnc i hlt
    have hpk' : itW p D s (i + 1) = minS c0 t0 := hpk
    have hfl := hnl (itW p D s i)
    rw [hl0] at hfl
    have hnR : ∀ d ∈ nbP p (itW p D s i), inR d := fun d hd => nbP_ok p _ d hd
    have h0R : ∀ d ∈ c0 :: t0, inR d := fun d hd => by rw [hfl] at hd; exact hnR d (List.mem_filter.1 hd).1
    have hnlen : (nbP p (itW p D s i)).length ≤ 4 := besL_len p _ _ 4
    have h0len : (c0 :: t0).length ≤ 4 := by rw [hfl]; exact Nat.le_trans (List.length_filter_le _ _) hnlen
    have hclo := fun Tf Ts gf gs d w => wayClo_any D tab T Tf Ts gt gf gs d (itW p D s i) w hT hval
    rw [hpk'] at hgs
    generalize hF : (fun d => !decide (D (ci d) = D (ci (itW p D s i)) - 1)) = F at *
    have hFd : ∀ d, (!decide (D (ci d) = D (ci (itW p D s i)) - 1)) = F d := fun d => by rw [← hF]
    simp only [hFd] at hclo hfl
    have hmin := fun g cap cur T w hA hg => minF_any c0 t0 g cap cur T w hA hg (by omega) h0R
    generalize itW p D s i = c at *
    generalize minS c0 t0 = q at *
    generalize nbP p c = NB at *
    have hdel := fun gf gs g n cap cur w hA hg hc => delS_any NB 85 _ [.pointer (some ⟨gf, 0, none⟩), .pointer (some ⟨gs, 0, none⟩)] F g n cap cur w hA hg (by omega) Try.func85 (by kernel_rfl) rfl hc
    simp only [← hfl] at hdel
    have hil : i ≤ 100 := by omega
    repeat' (first
      | (refine s_g ?_; first
      | (refine s_k 0 rfl ?_; refine s_val rfl rfl rfl (r_move rfl rfl) ?_)
      | (refine s_k 8 rfl ?_; first | (refine' s_val rfl rfl rfl (r_ldv rfl rfl ?qm ?qv) ?_; (case qm => (exact zMm)); (case qv => (first | exact ldvL tb rfl rfl | exact ldv1 tb rfl (by assumption) | exact ldvW tb rfl rfl | exact ldvW tb rfl (by assumption) | exact ldvW tb rfl (Pv.size (by assumption)) | exact ldvN tb rfl ext2_0 rfl | exact ldvN tb rfl ext2_2 rfl))) | (refine' s_val rfl rfl rfl (r_ldo rfl rfl ?qw (by simp) ?qv) ?_; (case qw => assumption); (case qv => (first | exact ldvL tb rfl rfl | exact ldv1 tb rfl (by assumption) | exact ldvW tb rfl rfl | exact ldvW tb rfl (by assumption) | exact ldvW tb rfl (Pv.size (by assumption)) | exact ldvN tb rfl ext2_0 rfl | exact ldvN tb rfl ext2_2 rfl))))
      | (refine s_k 1 rfl ?_; refine s_val rfl rfl rfl (r_assign rfl rfl) ?_)
      | (refine s_k 13 rfl ?_; refine s_val rfl rfl rfl (r_gtr rfl rfl rfl) ?_)
      | (refine s_k 35 rfl ?_; first | (refine s_call Try.func42 (by kernel_rfl) rfl rfl rfl rfl rfl rfl (fun w hL => hat2 w (Kn.old hL hg0 (by simp))) ?_) | (refine s_call Try.func83 (by kernel_rfl) rfl rfl rfl rfl rfl rfl (fun w hL => hmin _ _ _ _ w hp (hL.at_ m0)) ?_) | (refine s_callN Try.func50 (by kernel_rfl) rfl rfl rfl rfl rfl rfl (fun w hL => hbes w) fun gb kb capb curb hAb => ?_) | (refine s_callM0 Try.func84 (by kernel_rfl) rfl rfl rfl rfl rfl rfl (fun w hL hg => hdel b5 b4 _ _ _ _ w hAb hg (fun d hdm w' hb' => hclo _ _ b5 b4 d w' (hb'.blk (Kn.old hL hg0 (by simp)) (by have := hL.low _ List.mem_cons_self; simp at this; omega)) (hb'.blk (hL.at_ m2) (Kn.ne0 hL m1)) (hb'.blk (hL.at_ m3) (Kn.ne0 hL m2)) (hnR d hdm) hcR)) fun cs hp => ?_))
      | (refine s_k 4 rfl ?_; first | refine s_boxA rfl rfl rfl rfl rfl fun blk => ?_ | refine s_box1 rfl rfl rfl rfl rfl rfl fun blk => ?_)
      | (refine s_k 9 rfl ?_; (first | refine s_st1 tb rfl rfl rfl rfl rfl rfl rfl rfl ?_ | refine s_stA tb rfl rfl rfl rfl (by first | rfl | assumption | (apply Pv.size; assumption)) rfl rfl ?_); (first | refine' st0 ?qs ?_ | refine' st1 ?qs ?_ | refine' st2 ?qs ?_ | refine' st3 ?qs ?_ | refine' st4 ?qs ?_ | refine' st5 ?qs ?_ | refine' st6 ?qs ?_ | refine' st7 ?qs ?_ | refine' st8 ?qs ?_ | refine' st9 ?qs ?_ | refine' st10 ?qs ?_ | refine' st11 ?qs ?_); (case qs => (first | exact set_whole (vs := #[.int .i8 q.x, .int .i8 q.y]) rfl (by simp [Value.oneCell']) | exact zSet)))
      | (refine s_k 36 rfl ?_; refine s_app1 hA rfl rfl rfl uSpotS iSpot rfl (by omega) (by simp) (by simp) rfl (by simp [Value.oneCell']) (by unfold maxLen; omega) (by omega) rfl rfl rfl fun g cap cur hA => ?_)
      | (refine s_k 18 rfl ?_; refine s_val rfl rfl rfl (r_func rfl rfl rfl) ?_)
      | (refine s_k 6 rfl ?_; refine s_bsl rfl rfl (fun w => slSpot1 _ _ w) rfl rfl rfl fun blk => ?_)
      | refine s_nil ?_)
      | (refine c_g ?_; first | refine c_seq ?_ | refine c_region ?_ | (refine c_gc ?_; first | refine c_cond1 rfl zTr ?_ | refine c_cond0 rfl zTr ?_ | refine z_condd1 rfl ?_ | refine z_condd0 rfl ?_ | refine z_conddn1 rfl ?_ | refine z_conddn0 rfl ?_ | refine c_condd rfl (fun hc => ?_) (fun hc => ?_) | refine c_conddn rfl (fun hc => ?_) (fun hc => ?_) | refine c_condn rfl (fun hc => ?_) (fun hc => ?_) | refine c_cond rfl (fun hc => ?_) (fun hc => ?_)) | refine c_block ?_ | refine c_skip ?_ | refine c_exit ?_ | refine c_ret ?_)
      | (refine e_g ?_; first | refine e_then ?_ | refine e_blkn ?_ | refine e_thenx ?_ | refine e_thenr ?_ | refine e_blkr ?_ | refine e_blkx ?_ | refine e_blky rfl ?_)
      | refine e_drop0 (e_round (i + 1, g, cap, cur) (by simp; omega) ⟨by simp; omega, ?_⟩ ?hs (by simp only [hpk'])))
    all_goals first
      | (case hs => (repeat' (first | exact sub_nil | refine sub_cons rfl ?_ | refine sub_cons' rfl (by simp) ?_)); done)
      | (simp only; rw [hgs, flS_snoc]; simpa [Sp.cells] using hA)
  · obtain rfl : i = k := by omega
    repeat' (first
      | (refine s_g ?_; first
      | (refine s_k 0 rfl ?_; refine s_val rfl rfl rfl (r_move rfl rfl) ?_)
      | (refine s_k 8 rfl ?_; first | (refine' s_val rfl rfl rfl (r_ldv rfl rfl ?qm ?qv) ?_; (case qm => (exact zMm)); (case qv => (first | exact ldvL tb rfl rfl | exact ldv1 tb rfl (by assumption) | exact ldvW tb rfl rfl | exact ldvW tb rfl (by assumption) | exact ldvW tb rfl (Pv.size (by assumption)) | exact ldvN tb rfl ext2_0 rfl | exact ldvN tb rfl ext2_2 rfl))) | (refine' s_val rfl rfl rfl (r_ldo rfl rfl ?qw (by simp) ?qv) ?_; (case qw => assumption); (case qv => (first | exact ldvL tb rfl rfl | exact ldv1 tb rfl (by assumption) | exact ldvW tb rfl rfl | exact ldvW tb rfl (by assumption) | exact ldvW tb rfl (Pv.size (by assumption)) | exact ldvN tb rfl ext2_0 rfl | exact ldvN tb rfl ext2_2 rfl))))
      | (refine s_k 1 rfl ?_; refine s_val rfl rfl rfl (r_assign rfl rfl) ?_)
      | (refine s_k 13 rfl ?_; refine s_val rfl rfl rfl (r_gtr rfl rfl rfl) ?_)
      | (refine s_k 35 rfl ?_; (refine s_call Try.func42 (by kernel_rfl) rfl rfl rfl rfl rfl rfl (fun w hL => hat2 w (Kn.old hL hg0 (by simp))) ?_))
      | (refine s_k 4 rfl ?_; first | refine s_boxA rfl rfl rfl rfl rfl fun blk => ?_ | refine s_box1 rfl rfl rfl rfl rfl rfl fun blk => ?_)
      | (refine s_k 9 rfl ?_; (first | refine s_st1 tb rfl rfl rfl rfl rfl rfl rfl rfl ?_ | refine s_stA tb rfl rfl rfl rfl (by first | rfl | assumption | (apply Pv.size; assumption)) rfl rfl ?_); (first | refine' st0 ?qs ?_ | refine' st1 ?qs ?_ | refine' st2 ?qs ?_ | refine' st3 ?qs ?_ | refine' st4 ?qs ?_ | refine' st5 ?qs ?_ | refine' st6 ?qs ?_ | refine' st7 ?qs ?_ | refine' st8 ?qs ?_ | refine' st9 ?qs ?_ | refine' st10 ?qs ?_ | refine' st11 ?qs ?_); (case qs => (first | exact zSet)))
      | (refine s_k 18 rfl ?_; refine s_val rfl rfl rfl (r_func rfl rfl rfl) ?_)
      | refine s_nil ?_)
      | (refine c_g ?_; first | refine c_seq ?_ | refine c_region ?_ | (refine c_gc ?_; first | refine c_cond1 rfl zTr ?_ | refine c_cond0 rfl zTr ?_ | refine z_condd1 rfl ?_ | refine z_condd0 rfl ?_ | refine z_conddn1 rfl ?_ | refine z_conddn0 rfl ?_ | refine c_condd rfl (fun hc => ?_) (fun hc => ?_) | refine c_conddn rfl (fun hc => ?_) (fun hc => ?_) | refine c_condn rfl (fun hc => ?_) (fun hc => ?_) | refine c_cond rfl (fun hc => ?_) (fun hc => ?_)) | refine c_block ?_ | refine c_skip ?_ | refine c_exit ?_ | refine c_ret ?_)
      | (refine e_g ?_; first | refine e_then ?_ | refine e_blkn ?_ | refine e_thenx ?_ | refine e_thenr ?_ | refine e_blkr ?_ | refine e_blkx ?_ | refine e_blky rfl ?_)
      | (refine e_ret1 (by simp) rfl (re_tmp rfl) fun w hL => NewS.of hA hL m0))
end Go.Proofs.Ytnafnhpajkhgkaa
/- The cell that a goat chooses: the program's. No condition. -/
namespace Go.Proofs.Ytnafnhpajkhgkaa
set_option linter.unusedVariables false
set_option linter.unusedSimpArgs false
open Go.RowKit Mem Wk
attribute [local irreducible] Calls Wk.C Wk.E Wk.X Wk.T Wk.Y Wk.anV Wk.orV Wk.andV Wk.shlV Wk.shrV Calm.wpLex CalmB.wpLex bfsN
theorem Wk.s_gdu {P : Program} {n : Nat} {O : List Nat} {w0 : World} {l : List (Nat × Value)} {L : List (Nat × TypeId × Array Value)} {Q : Exit → Act → World → Prop} {ops : Array Oper} {rest : List Oper} {d : Nat} {op : Op} {ty : TypeId} {ps : String} {af : Array Edge} {j : Nat} {b : Bool} {t : Nat} (hn : Nat.blt d n = true) (hj : (ops[j]?).bind (·.dst) = some t) (ht : lk l t = some undef) (h : Wk.S P ops Q n O w0 rest ((d, undef) :: l) L) : Wk.S P ops Q n O w0 (⟨some d, op, ty, ps, af, some (j, b)⟩ :: rest) l L := fun a w hF hL => by
  have h2 : Region.wanted ⟨some d, op, ty, ps, af, some (j, b)⟩ (yielded ops a.tmps) = false := by simp [Region.wanted, yu hF hj ht]
  unfold wpList
  rw [if_neg (by rw [h2]; simp)]
  exact h _ _ (hF.put hn undef) hL
attribute [local irreducible] Wk.S
theorem bSpot0 (w : World) : (Instr.build 52 #[]).run Try.prog w = .ok (.agg #[.int .i8 0, .int .i8 0]) w := by kernel_rfl
end Go.Proofs.Ytnafnhpajkhgkaa
