import Derived.Test.YtnafnhpajkhgkaaQY08
import Derived.Test.YtnafnhpajkhgkaaQY09
import Derived.Test.YtnafnhpajkhgkaaQY10
/- Going over sides: canGo, l01Closed, l01Set. No condition. -/
namespace Go.Proofs.Ytnafnhpajkhgkaa
set_option linter.unusedVariables false
set_option linter.unusedSimpArgs false
open Go.RowKit Mem Wk
attribute [local irreducible] Calls Wk.S Wk.C Wk.E Wk.X Wk.T Wk.andV Wk.shrV Calm.wpLex
theorem isC_range {a b x y : Int} (h : isC a b x y = true) : 0 ≤ x ∧ x < 10 ∧ 0 ≤ y ∧ y < 10 := by
  unfold isC inB at h; simp at h; omega
theorem next_range {x y side : Int} (hx : 0 ≤ x ∧ x < 10) (hy : 0 ≤ y ∧ y < 10) : (-128 ≤ nextX x side ∧ nextX x side ≤ 127) ∧ -128 ≤ nextY y side ∧ nextY y side ≤ 127 := by
  unfold nextX nextY; repeat' split
  all_goals omega
theorem hd_range {x y side : Int} (hx : 0 ≤ x ∧ x < 10) (hy : 0 ≤ y ∧ y < 10) (h : 0 ≤ nextX x side ∧ nextX x side < 10 ∧ 0 ≤ nextY y side ∧ nextY y side < 10) : (0 ≤ hdX x side ∧ hdX x side < 10) ∧ 0 ≤ hdY y side ∧ hdY y side < 10 := by
  unfold hdX hdY; repeat' split
  all_goals omega
def canB (p : Nat → Int) (x y side : Int) : Bool := isC (p 0) (p 1) (nextX x side) (nextY y side) && !standB p (hdX x side) (hdY y side) (hdS side)
set_option maxRecDepth 100000 in
set_option maxHeartbeats 400000 in
theorem canGo_any (p : Nat → Int) (cs : Array Value) (x y side : Int) (w : World) (hp : Pv p cs) (hx : 0 ≤ x ∧ x < 10) (hy : 0 ≤ y ∧ y < 10) :
    Calls Try.prog 80 #[.agg cs, .agg #[.int .i8 x, .int .i8 y], .int .i64 side] w fun e w' => e = .returned (.bool (canB p x y side)) ∧ Below w.heap.size w w' := by
  have hsz := hp.size
  have hr := next_range (side := side) hx hy
  cases hn : isC (p 0) (p 1) (nextX x side) (nextY y side)
  case' true => have hd := hd_range (side := side) hx hy (isC_range hn)
  all_goals
    refine enter3 Try.func80 rfl rfl rfl (Own.start w) ?_
    repeat' (first
      | (refine s_g ?_; first
      | (refine s_gd rfl ?_; first | refine s_gd1 rfl rfl zTr ?_ | refine s_gd0 rfl rfl rfl zTr ?_ | refine s_gd00 rfl rfl zTr ?_ | refine s_gp1 rfl rfl rfl (fun hc => ?_) (fun hc => ?_) | refine s_gp0 rfl rfl rfl (fun hc => ?_) (fun hc => ?_) | refine s_gnp1 rfl rfl rfl (fun hc => ?_) (fun hc => ?_) | refine s_gnp0 rfl rfl rfl (fun hc => ?_) (fun hc => ?_) | refine s_gb1 rfl rfl rfl (fun hc => ?_) (fun hc => ?_) | refine s_gb0 rfl rfl rfl (fun hc => ?_) (fun hc => ?_) | refine s_gnb1 rfl rfl rfl (fun hc => ?_) (fun hc => ?_) | refine s_gnb0 rfl rfl rfl (fun hc => ?_) (fun hc => ?_))
      | (refine s_k 0 rfl ?_; refine s_val rfl rfl rfl (r_move rfl rfl) ?_)
      | (refine s_k 8 rfl ?_; first | (refine' s_val rfl rfl rfl (r_ldv rfl rfl ?qm ?qv) ?_; (case qm => (exact zMm)); (case qv => (exact zLe))) | (refine' s_val rfl rfl rfl (r_ldo rfl rfl ?qw (by simp) ?qv) ?_; (case qw => assumption); (case qv => (exact zLe))))
      | (refine s_k 1 rfl ?_; refine s_val rfl rfl rfl (r_assign rfl rfl) ?_)
      | (refine s_k 35 rfl ?_; first | (refine s_call Try.func79 (by kernel_rfl) rfl rfl rfl rfl rfl rfl (fun w hL => ahead_any _ _ _ _ (by omega) (by omega)) ?_) | (refine s_call Try.func63 (by kernel_rfl) rfl rfl rfl rfl rfl rfl (fun w hL => isCell_any p cs _ _ _ hp hr.1 hr.2) ?_) | (refine s_call Try.func86 (by kernel_rfl) rfl rfl rfl rfl rfl rfl (fun w hL => hurdleAt_any _ _ _ _ (by omega) (by omega)) ?_) | (refine s_call Try.func66 (by kernel_rfl) rfl rfl rfl rfl rfl rfl (fun w hL => stands_any p cs _ _ _ _ hp hd.1 hd.2) ?_))
      | (refine s_k 14 rfl ?_; refine s_val rfl rfl rfl (r_not rfl rfl) ?_)
      | (refine s_k 2 rfl ?_; first | refine s_val rfl rfl rfl (r_pick1 rfl rfl zTr rfl) ?_ | refine s_val rfl rfl rfl (r_pick0 rfl rfl zTr rfl) ?_)
      | (refine s_k 4 rfl ?_; first | refine s_boxA rfl rfl rfl rfl rfl fun blk => ?_ | refine s_box1 rfl rfl rfl rfl rfl rfl fun blk => ?_)
      | refine s_nil ?_)
      | (refine c_g ?_; first | refine c_seq ?_ | refine c_region ?_ | (refine c_gc ?_; first | refine c_cond1 rfl zTr ?_ | refine c_cond0 rfl zTr ?_ | refine z_condd1 rfl ?_ | refine z_condd0 rfl ?_ | refine z_conddn1 rfl ?_ | refine z_conddn0 rfl ?_ | refine c_condd rfl (fun hc => ?_) (fun hc => ?_) | refine c_conddn rfl (fun hc => ?_) (fun hc => ?_) | refine c_condn rfl (fun hc => ?_) (fun hc => ?_) | refine c_cond rfl (fun hc => ?_) (fun hc => ?_)) | refine c_block ?_ | refine c_skip ?_ | refine c_exit ?_ | refine c_ret ?_)
      | (refine e_g ?_; first | refine e_then ?_ | refine e_blkn ?_ | refine e_thenx ?_ | refine e_thenr ?_ | refine e_blkr ?_ | refine e_blkx ?_ | refine e_blky rfl ?_)
      | (refine x_g ?_; first
      | (refine x_gd rfl ?_; first | refine x_gd1 rfl rfl zTr ?_ | (refine x_gd0 rfl rfl rfl zTr ?hp ?_; (case hp => exact rfl)))
      | (refine x_k 0 rfl ?_; (refine x_val rfl rfl rfl (r_move rfl rfl) ?hp ?_; (case hp => exact rfl)))
      | (refine x_k 8 rfl ?_; first | (refine' x_val rfl rfl rfl (r_ldv rfl rfl ?qm ?qv) ?hp ?_; (case qm => (exact zMm)); (case qv => (exact zLe)); (case hp => exact rfl)) | (refine' x_val rfl rfl rfl (r_ldo rfl rfl ?qw (by simp) ?qv) ?hp ?_; (case qw => assumption); (case qv => (exact zLe)); (case hp => exact rfl)))
      | (refine x_k 1 rfl ?_; (refine x_val rfl rfl rfl (r_assign rfl rfl) ?hp ?_; (case hp => exact rfl)))
      | (refine x_k 35 rfl ?_; first | (refine x_call Try.func79 (by kernel_rfl) rfl rfl rfl rfl rfl rfl (fun w hL => ahead_any _ _ _ _ (by omega) (by omega)) ?hp ?_; (case hp => exact rfl)) | (refine x_call Try.func63 (by kernel_rfl) rfl rfl rfl rfl rfl rfl (fun w hL => isCell_any p cs _ _ _ hp hr.1 hr.2) ?hp ?_; (case hp => exact rfl)) | (refine x_call Try.func86 (by kernel_rfl) rfl rfl rfl rfl rfl rfl (fun w hL => hurdleAt_any _ _ _ _ (by omega) (by omega)) ?hp ?_; (case hp => exact rfl)) | (refine x_call Try.func66 (by kernel_rfl) rfl rfl rfl rfl rfl rfl (fun w hL => stands_any p cs _ _ _ _ hp hd.1 hd.2) ?hp ?_; (case hp => exact rfl)))
      | (refine x_k 14 rfl ?_; (refine x_val rfl rfl rfl (r_not rfl rfl) ?hp ?_; (case hp => exact rfl)))
      | (refine x_k 2 rfl ?_; first | (refine x_val rfl rfl rfl (r_pick1 rfl rfl zTr rfl) ?hp ?_; (case hp => exact rfl)) | (refine x_val rfl rfl rfl (r_pick0 rfl rfl zTr rfl) ?hp ?_; (case hp => exact rfl)))
      | (refine x_k 4 rfl ?_; (refine x_boxA rfl rfl rfl rfl rfl ?hp (fun blk => ?_); (case hp => exact rfl)))
      | refine x_nil0 ?_
      | refine x_nil ?_)
      | (refine' c_drawX (id := 1) [(Sum.inl _ : Calm.Plan), (Sum.inl _ : Calm.Plan), (Sum.inl _ : Calm.Plan), (Sum.inl _ : Calm.Plan), (Sum.inl _ : Calm.Plan), (Sum.inl _ : Calm.Plan), (Sum.inl _ : Calm.Plan), (Sum.inl _ : Calm.Plan), (Sum.inl _ : Calm.Plan), (Sum.inl _ : Calm.Plan), (Sum.inl _ : Calm.Plan), (Sum.inl _ : Calm.Plan), (Sum.inl _ : Calm.Plan), (Sum.inl _ : Calm.Plan)] (by kernel_rfl) (by kernel_rfl) (by kernel_rfl) ?_)
      | (refine e_ret1 (by simp) rfl (re_tmp rfl) fun w hL => ⟨?_, hL.toBelow⟩))
    all_goals (simp [canB, *]; done)
set_option maxRecDepth 100000 in
set_option maxHeartbeats 400000 in
theorem l01Closed_any (p : Nat → Int) (cs : Array Value) (T : TypeId) (g : Nat) (x y side : Int) (w : World) (hp : Pv p cs) (hg : w.heap[g]? = some (.cells cs T (0, 0))) (ha : p 0 ≤ 10) (hb : p 1 ≤ 10) (hx : 0 ≤ x ∧ x < 10) (hy : 0 ≤ y ∧ y < 10) (hs : 0 ≤ side ∧ side ≤ 3) :
    Calls Try.prog 106 #[.pointer (some ⟨g, 0, none⟩), .agg #[.int .i8 x, .int .i8 y], .int .i64 side] w fun e w' => e = .returned (.bool (!canB p x y side)) ∧ Below w.heap.size w w' := by
  have hsz := hp.size
  have hr := next_range (side := side) hx hy
  cases hn : isC (p 0) (p 1) (nextX x side) (nextY y side)
  case' true => have hd := isC_range hn
  all_goals
    refine enter3 Try.func106 rfl rfl rfl (Own.start w) ?_
    repeat' (first
      | (refine s_g ?_; first
      | (refine s_k 0 rfl ?_; refine s_val rfl rfl rfl (r_move rfl rfl) ?_)
      | (refine s_k 23 rfl ?_; first | refine s_val rfl rfl rfl (r_field tb rfl rfl rfl) ?_ | refine s_val rfl rfl rfl (r_fieldS tb rfl rfl rfl) ?_)
      | (refine s_k 8 rfl ?_; first | (refine' s_val rfl rfl rfl (r_ldv rfl rfl ?qm ?qv) ?_; (case qm => (exact zMm)); (case qv => (first | exact ldvL tb rfl rfl | exact ldv1 tb rfl (by assumption) | exact ldv1 tb rfl (hp.eastA (by omega) (by omega)) | exact ldv1 tb rfl (hp.southA (by omega) (by omega)) | exact zLd))) | (refine' s_val rfl rfl rfl (r_ldo rfl rfl ?qw (by simp) ?qv) ?_; (case qw => assumption); (case qv => (first | exact ldvL tb rfl rfl | exact ldv1 tb rfl (by assumption) | exact ldv1 tb rfl (hp.eastA (by omega) (by omega)) | exact ldv1 tb rfl (hp.southA (by omega) (by omega)) | exact zLd))))
      | (refine s_k 1 rfl ?_; refine s_val rfl rfl rfl (r_assign rfl rfl) ?_)
      | (refine s_k 13 rfl ?_; first | refine s_val rfl rfl rfl (r_eql rfl rfl rfl) ?_ | refine s_val rfl rfl rfl (r_and rfl rfl rfl) ?_ | refine s_val rfl rfl rfl (r_shr rfl rfl rfl (by omega)) ?_)
      | (refine s_k 35 rfl ?_; first | (refine s_call Try.func75 (by kernel_rfl) rfl rfl rfl rfl rfl rfl (fun w hL => l01Next_any _ _ _ _ (by omega) (by omega)) ?_) | (refine s_call Try.func88 (by kernel_rfl) rfl rfl rfl rfl rfl rfl (fun w hL => l01Is_any p cs T g _ _ _ hp (Kn.old hL hg (by simp)) ha hb hr.1 hr.2) ?_))
      | (refine s_k 15 rfl ?_; refine s_val rfl rfl rfl (r_conv tb rfl rfl rfl rfl (wrap_in (by simp only [lo, hi]; omega))) ?_)
      | (refine s_k 14 rfl ?_; refine s_val rfl rfl rfl (r_not rfl rfl) ?_)
      | (refine s_k 25 rfl ?_; first | refine s_val rfl rfl rfl (r_ixN tb rfl rfl rfl rfl (by omega)) ?_ | refine s_val rfl rfl rfl (r_ixA tb rfl rfl rfl rfl (by omega) (by omega)) ?_ | refine s_val rfl rfl rfl (r_ixO tb rfl rfl rfl rfl (by omega)) ?_)
      | (refine s_k 4 rfl ?_; first | refine s_boxA rfl rfl rfl rfl rfl fun blk => ?_ | refine s_box1 rfl rfl rfl rfl rfl rfl fun blk => ?_)
      | (refine s_k 9 rfl ?_; (first | refine s_st1 tb rfl rfl rfl rfl rfl rfl rfl rfl ?_ | refine s_stA tb rfl rfl rfl rfl (by first | rfl | assumption | (apply Pv.size; assumption)) rfl rfl ?_); (first | refine' st0 ?qs ?_ | refine' st1 ?qs ?_ | refine' st2 ?qs ?_ | refine' st3 ?qs ?_ | refine' st4 ?qs ?_ | refine' st5 ?qs ?_ | refine' st6 ?qs ?_ | refine' st7 ?qs ?_ | refine' st8 ?qs ?_ | refine' st9 ?qs ?_ | refine' st10 ?qs ?_ | refine' st11 ?qs ?_); (case qs => (first | exact zSet)))
      | (refine s_k 3 rfl ?_; refine s_allocA (t := 52) rfl zImplSpot rfl rfl rfl fun blk => ?_)
      | (refine s_k 12 rfl ?_; refine s_val rfl rfl rfl (r_nil rfl rfl) ?_)
      | refine s_nil ?_)
      | (refine c_g ?_; first | refine c_seq ?_ | refine c_region ?_ | (refine c_gc ?_; first | refine c_cond1 rfl zTr ?_ | refine c_cond0 rfl zTr ?_ | refine z_condd1 rfl ?_ | refine z_condd0 rfl ?_ | refine z_conddn1 rfl ?_ | refine z_conddn0 rfl ?_ | refine c_condd rfl (fun hc => ?_) (fun hc => ?_) | refine c_conddn rfl (fun hc => ?_) (fun hc => ?_) | refine c_condn rfl (fun hc => ?_) (fun hc => ?_) | refine c_cond rfl (fun hc => ?_) (fun hc => ?_)) | refine c_block ?_ | refine c_skip ?_ | refine c_exit ?_ | refine c_ret ?_)
      | (refine e_g ?_; first | refine e_then ?_ | refine e_blkn ?_ | refine e_thenx ?_ | refine e_thenr ?_ | refine e_blkr ?_ | refine e_blkx ?_ | refine e_blky rfl ?_)
      | (refine x_g ?_; first
      | (refine x_k 0 rfl ?_; (refine x_val rfl rfl rfl (r_move rfl rfl) ?hp ?_; (case hp => exact rfl)))
      | (refine x_k 23 rfl ?_; first | (refine x_val rfl rfl rfl (r_field tb rfl rfl rfl) ?hp ?_; (case hp => exact rfl)) | (refine x_val rfl rfl rfl (r_fieldS tb rfl rfl rfl) ?hp ?_; (case hp => exact rfl)))
      | (refine x_k 8 rfl ?_; first | (refine' x_val rfl rfl rfl (r_ldv rfl rfl ?qm ?qv) ?hp ?_; (case qm => (exact zMm)); (case qv => (first | exact ldvL tb rfl rfl | exact ldv1 tb rfl (by assumption) | exact ldv1 tb rfl (hp.eastA (by omega) (by omega)) | exact ldv1 tb rfl (hp.southA (by omega) (by omega)) | exact zLd)); (case hp => exact rfl)) | (refine' x_val rfl rfl rfl (r_ldo rfl rfl ?qw (by simp) ?qv) ?hp ?_; (case qw => assumption); (case qv => (first | exact ldvL tb rfl rfl | exact ldv1 tb rfl (by assumption) | exact ldv1 tb rfl (hp.eastA (by omega) (by omega)) | exact ldv1 tb rfl (hp.southA (by omega) (by omega)) | exact zLd)); (case hp => exact rfl)))
      | (refine x_k 1 rfl ?_; (refine x_val rfl rfl rfl (r_assign rfl rfl) ?hp ?_; (case hp => exact rfl)))
      | (refine x_k 13 rfl ?_; first | (refine x_val rfl rfl rfl (r_eql rfl rfl rfl) ?hp ?_; (case hp => exact rfl)) | (refine x_val rfl rfl rfl (r_and rfl rfl rfl) ?hp ?_; (case hp => exact rfl)) | (refine x_val rfl rfl rfl (r_shr rfl rfl rfl (by omega)) ?hp ?_; (case hp => exact rfl)))
      | (refine x_k 35 rfl ?_; first | (refine x_call Try.func75 (by kernel_rfl) rfl rfl rfl rfl rfl rfl (fun w hL => l01Next_any _ _ _ _ (by omega) (by omega)) ?hp ?_; (case hp => exact rfl)) | (refine x_call Try.func88 (by kernel_rfl) rfl rfl rfl rfl rfl rfl (fun w hL => l01Is_any p cs T g _ _ _ hp (Kn.old hL hg (by simp)) ha hb hr.1 hr.2) ?hp ?_; (case hp => exact rfl)))
      | (refine x_k 15 rfl ?_; (refine x_val rfl rfl rfl (r_conv tb rfl rfl rfl rfl (wrap_in (by simp only [lo, hi]; omega))) ?hp ?_; (case hp => exact rfl)))
      | (refine x_k 14 rfl ?_; (refine x_val rfl rfl rfl (r_not rfl rfl) ?hp ?_; (case hp => exact rfl)))
      | (refine x_k 25 rfl ?_; first | (refine x_val rfl rfl rfl (r_ixN tb rfl rfl rfl rfl (by omega)) ?hp ?_; (case hp => exact rfl)) | (refine x_val rfl rfl rfl (r_ixA tb rfl rfl rfl rfl (by omega) (by omega)) ?hp ?_; (case hp => exact rfl)) | (refine x_val rfl rfl rfl (r_ixO tb rfl rfl rfl rfl (by omega)) ?hp ?_; (case hp => exact rfl)))
      | (refine x_k 4 rfl ?_; (refine x_boxA rfl rfl rfl rfl rfl ?hp (fun blk => ?_); (case hp => exact rfl)))
      | (refine x_k 9 rfl ?_; first | (refine' x_putA0 tb rfl rfl rfl rfl (by first | rfl | assumption | (apply Pv.size; assumption)) ?qs (by first | rfl | assumption | (apply Pv.size; assumption)) rfl rfl ?hp ?_; (case qs => (first | exact zSet)); (case hp => exact rfl)) | (refine' x_putA1 tb rfl rfl rfl rfl (by first | rfl | assumption | (apply Pv.size; assumption)) ?qs (by first | rfl | assumption | (apply Pv.size; assumption)) rfl rfl ?hp ?_; (case qs => (first | exact zSet)); (case hp => exact rfl)) | (refine' x_putA2 tb rfl rfl rfl rfl (by first | rfl | assumption | (apply Pv.size; assumption)) ?qs (by first | rfl | assumption | (apply Pv.size; assumption)) rfl rfl ?hp ?_; (case qs => (first | exact zSet)); (case hp => exact rfl)))
      | (refine x_k 3 rfl ?_; (refine x_allocA (t := 52) rfl zImplSpot rfl rfl rfl ?hp (fun blk => ?_); (case hp => exact rfl)))
      | (refine x_k 12 rfl ?_; (refine x_val rfl rfl rfl (r_nil rfl rfl) ?hp ?_; (case hp => exact rfl)))
      | refine x_nil0 ?_
      | refine x_nil ?_)
      | (refine' c_drawX (id := 6) [(Sum.inl _ : Calm.Plan), (Sum.inl _ : Calm.Plan), (Sum.inl _ : Calm.Plan), (Sum.inl _ : Calm.Plan), (Sum.inl _ : Calm.Plan), (Sum.inl _ : Calm.Plan), (Sum.inl _ : Calm.Plan), (Sum.inl _ : Calm.Plan), (Sum.inl _ : Calm.Plan), (Sum.inl _ : Calm.Plan), (Sum.inl _ : Calm.Plan), (Sum.inl _ : Calm.Plan), (Sum.inl _ : Calm.Plan), (Sum.inl _ : Calm.Plan)] (by kernel_rfl) (by kernel_rfl) (by kernel_rfl) ?_)
      | (refine' c_drawX (id := 8) [(Sum.inl _ : Calm.Plan), (Sum.inl _ : Calm.Plan), (Sum.inl _ : Calm.Plan), (Sum.inl _ : Calm.Plan), (Sum.inl _ : Calm.Plan), (Sum.inl _ : Calm.Plan), (Sum.inl _ : Calm.Plan), (Sum.inl _ : Calm.Plan), (Sum.inl _ : Calm.Plan), (Sum.inl _ : Calm.Plan), (Sum.inl _ : Calm.Plan), (Sum.inl _ : Calm.Plan), (Sum.inl _ : Calm.Plan), (Sum.inl _ : Calm.Plan)] (by kernel_rfl) (by kernel_rfl) (by kernel_rfl) ?_)
      | (refine' c_drawX (id := 10) [(Sum.inl _ : Calm.Plan), (Sum.inl _ : Calm.Plan), (Sum.inl _ : Calm.Plan), (Sum.inl _ : Calm.Plan), (Sum.inl _ : Calm.Plan), (Sum.inl _ : Calm.Plan), (Sum.inl _ : Calm.Plan), (Sum.inl _ : Calm.Plan), (Sum.inl _ : Calm.Plan), (Sum.inl _ : Calm.Plan), (Sum.inl _ : Calm.Plan), (Sum.inl _ : Calm.Plan), (Sum.inl _ : Calm.Plan), (Sum.inl _ : Calm.Plan)] (by kernel_rfl) (by kernel_rfl) (by kernel_rfl) ?_)
      | (refine' c_drawX (id := 11) [(Sum.inl _ : Calm.Plan), (Sum.inl _ : Calm.Plan), (Sum.inl _ : Calm.Plan), (Sum.inl _ : Calm.Plan), (Sum.inl _ : Calm.Plan), (Sum.inl _ : Calm.Plan), (Sum.inl _ : Calm.Plan), (Sum.inl _ : Calm.Plan), (Sum.inl _ : Calm.Plan), (Sum.inl _ : Calm.Plan), (Sum.inl _ : Calm.Plan), (Sum.inl _ : Calm.Plan), (Sum.inl _ : Calm.Plan), (Sum.inl _ : Calm.Plan)] (by kernel_rfl) (by kernel_rfl) (by kernel_rfl) ?_)
      | (refine e_ret1 (by simp) rfl (re_tmp rfl) fun w hL => ⟨?_, hL.toBelow⟩))
    all_goals
      (unfold canB; rw [hn]
       rcases (show side = 0 ∨ side = 1 ∨ side = 2 ∨ side = 3 by omega) with h | h | h | h <;> subst h <;> first | omega | (simp [standB, bitB, hdX, hdY, hdS, nextX, nextY]; done))
end Go.Proofs.Ytnafnhpajkhgkaa
/- The closure of cellCode: a spot that is no cell. No condition. -/
namespace Go.Proofs.Ytnafnhpajkhgkaa
set_option linter.unusedVariables false
set_option linter.unusedSimpArgs false
open Go.RowKit Mem
attribute [local irreducible] Calm.wpLex
set_option maxRecDepth 100000 in
set_option maxHeartbeats 1000000 in
theorem cellClosure_any (p : Nat → Int) (cs : Array Value) (gp : Nat) (x y : Int) (w : World) (hp : Pv p cs) (hw : w.heap[gp]? = some (.cells cs 32 (0, 0))) (hx : -128 ≤ x ∧ x ≤ 127) (hy : -128 ≤ y ∧ y ≤ 127) :
    Calls Try.prog 62 #[.agg #[.int .i8 x, .int .i8 y], .pointer (some ⟨gp, 0, none⟩)] w fun e w' => e = .returned (.bool (!(isC (p 0) (p 1) x y))) ∧ Below w.heap.size w w' := by
  have hL := Own.startAt w hw
  have HW := Lib.hid hw
  have hsz := hp.size
  clear hw
  go_enter Try.func62, Try.ntmps62
  go_wp2_with (first
    | ((with_reducible refine gate_dst (N := 2) rfl ?_); refine wpl_box (cs := #[.int .i8 x, .int .i8 y]) hL rfl rfl rfl ?_; clear hL; intro g2 w2 hL)
    | ((with_reducible refine gate_load (ty := 32) rfl ?_); refine wpl_loadW_1 hL rfl rfl (by kernel_rfl) rfl hsz (by kernel_rfl) ?_)
    | ((with_reducible refine gate_load (ty := 52) rfl ?_); refine wpl_loadW_0 hL rfl rfl (by kernel_rfl) rfl rfl (by kernel_rfl) ?_)
    | (go_at_call 63; (with_reducible refine (isCell_any p cs x y _ hp hx hy).mono ?_); rintro e w4 ⟨rfl, hb⟩; replace hL := hL.ext hb; clear hb))
  go_ret
  exact ⟨rfl, hL.toBelow1 HW.out (hL.at_ (i := 1) rfl)⟩
end Go.Proofs.Ytnafnhpajkhgkaa
/- ContainsFunc over spots: is one of them no cell. No condition. -/
namespace Go.Proofs.Ytnafnhpajkhgkaa
set_option linter.unusedVariables false
set_option linter.unusedSimpArgs false
open Go.RowKit Mem
attribute [local irreducible] Calm.wpLex
theorem bb_below {w w' : World} {g : Nat} {o : Obj} (h : w.heap[g]? = some o) (hb : Below w.heap.size w w') : w'.heap[g]? = some o := by
  rw [hb.block g (Array.getElem?_eq_some_iff.1 h).1]; exact h
theorem cellClosure_s (p : Nat → Int) (cs : Array Value) (gp : Nat) (s : Sp) (w : World) (hp : Pv p cs) (hw : w.heap[gp]? = some (.cells cs 32 (0, 0))) (hs : s.ok) :
    Calls Try.prog 62 #[.agg s.cells.toArray, .pointer (some ⟨gp, 0, none⟩)] w fun e w' => e = .returned (.bool (!(isC (p 0) (p 1) s.x s.y))) ∧ Below w.heap.size w w' :=
  cellClosure_any p cs gp s.x s.y w hp hw ⟨hs.1, hs.2.1⟩ ⟨hs.2.2.1, hs.2.2.2⟩
set_option maxRecDepth 100000 in
set_option maxHeartbeats 1000000 in
theorem idxSp_any (v : Value) (l : List Sp) (p : Nat → Int) (cs : Array Value) (gp : Nat) (w : World) (hl : Sl w 2 v (l.map Sp.cells)) (hp : Pv p cs) (hg : w.heap[gp]? = some (.cells cs 32 (0, 0))) (hok : ∀ g ∈ l, g.ok) :
    Calls Try.prog 95 #[v, .func (.func 62) #[] #[.pointer (some ⟨gp, 0, none⟩)]] w fun e w' => ∃ r, e = .returned (.int .i64 r) ∧ (decide (0 ≤ r) = l.any fun g => !isC (p 0) (p 1) g.x g.y) ∧ Below w.heap.size w w' := by
  have hL := Own.start w
  have HS := Lib.hid hl
  have HW := Lib.hid hg
  have HOK := Lib.hid hok
  have HP := Lib.hid hp
  obtain ⟨A, cap, rfl, hc1, hm1, _⟩ := hl
  rw [List.length_map] at HS hc1 ⊢
  unfold maxLen at hm1
  obtain ⟨N, hN⟩ : ∃ N, l.length = N := ⟨_, rfl⟩
  have HN := Lib.hid hN
  rw [hN] at HS hc1 ⊢
  clear hN hg hok hp
  go_enter Try.func95, Try.ntmps95
  go_wp2
  go_loopg [8] N (fun n i wr => ∃ (k : Nat), k ≤ N ∧ n = N - k ∧ i = .int .i64 k ∧ Hid (∀ j g, j < k → l[j]? = some g → isC (p 0) (p 1) g.x g.y = true) ∧ Own w.heap.size [] w wr [])
  case atStart => exact ⟨0, by omega, rfl, rfl, (fun j g hj => by omega), hL⟩
  case round =>
    clear hL
    obtain ⟨k, hk, rfl, rfl, HA, hL⟩ := hrel
    by_cases hlt : k < N
    · have HS2 := HS.out.below hL.toBelow
      have HW2 := Lib.hid (bb_below HW.out hL.toBelow)
      obtain ⟨A2, cap2, hv2, _, _, hel⟩ := HS2
      injection hv2 with hA hn2 hc2
      obtain ⟨s, hs⟩ : ∃ s, l[k]? = some s := ⟨_, List.getElem?_eq_getElem (by have := HN.out; omega)⟩
      have HSK := Lib.hid hs
      have HSO := Lib.hid (HOK.out s (List.mem_of_getElem? hs))
      have hmap : (l.map Sp.cells)[k]? = some s.cells := by rw [List.getElem?_map, hs]; rfl
      obtain ⟨hcl, b, off, hA2, hcell⟩ := hel k _ hmap
      have HC := Lib.hid hcell
      obtain rfl : A = some ⟨b, off, none⟩ := hA.trans hA2
      clear hel hmap hs hA hn2 hc2 hA2 hcell
      have hi1 : (k : Int) < (N : Int) := by omega
      obtain ⟨bb, hbb⟩ : ∃ bb, isC (p 0) (p 1) s.x s.y = bb := ⟨_, rfl⟩
      have HB := Lib.hid hbb
      cases bb with
      | true =>
        go_wp2_with (first
          | ((with_reducible refine gate_load rfl ?_); refine wpl_loadA 2 rfl rfl (by kernel_rfl) rfl (c := s.cells) HC.out (by kernel_rfl) rfl ?_)
          | (go_at_call 62; (with_reducible refine (cellClosure_s p cs gp s _ HP.out HW2.out HSO.out).mono ?_); rintro e w4 ⟨rfl, hb⟩; rw [hbb]; replace hL := hL.ext hb; clear hb))
        go_roundg (N - (k + 1))
        case measure => omega
        case rel => exact ⟨k + 1, by omega, rfl, by go_num, (fun j g hj hg => by
          rcases Nat.lt_succ_iff_lt_or_eq.1 hj with e | e
          · exact HA.out j g e hg
          · subst e; have := HSK.out; rw [hg] at this; injection this with this; subst this; exact HB.out), hL⟩
      | false =>
        go_wp2_with (first
          | ((with_reducible refine gate_load rfl ?_); refine wpl_loadA 2 rfl rfl (by kernel_rfl) rfl (c := s.cells) HC.out (by kernel_rfl) rfl ?_)
          | (go_at_call 62; (with_reducible refine (cellClosure_s p cs gp s _ HP.out HW2.out HSO.out).mono ?_); rintro e w4 ⟨rfl, hb⟩; rw [hbb]; replace hL := hL.ext hb; clear hb))
        go_ret
        refine ⟨k, rfl, ?_, hL.toBelow⟩
        have : (l.any fun g => !isC (p 0) (p 1) g.x g.y) = true := List.any_eq_true.2 ⟨s, List.mem_of_getElem? HSK.out, by rw [HB.out]; rfl⟩
        rw [this]; simp
    · go_wp2
      go_ret
      refine ⟨-1, rfl, ?_, hL.toBelow⟩
      have : (l.any fun g => !isC (p 0) (p 1) g.x g.y) = false := by
        rw [List.any_eq_false]
        intro s hs
        obtain ⟨j, hj⟩ := List.mem_iff_getElem?.1 hs
        have hjl : j < l.length := (List.getElem?_eq_some_iff.1 hj).1
        rw [HA.out j s (by have := HN.out; omega) hj]; simp
      rw [this]; simp
set_option maxRecDepth 100000 in
theorem hasSp_any (v : Value) (l : List Sp) (p : Nat → Int) (cs : Array Value) (gp : Nat) (w : World) (hl : Sl w 2 v (l.map Sp.cells)) (hp : Pv p cs) (hg : w.heap[gp]? = some (.cells cs 32 (0, 0))) (hok : ∀ g ∈ l, g.ok) :
    Calls Try.prog 61 #[v, .func (.func 62) #[] #[.pointer (some ⟨gp, 0, none⟩)]] w fun e w' => e = .returned (.bool (l.any fun g => !isC (p 0) (p 1) g.x g.y)) ∧ Below w.heap.size w w' := by
  go_enter Try.func61, Try.ntmps61
  go_wp2_with (first
    | (go_at_call 95; (with_reducible refine (idxSp_any v l p cs gp _ hl hp hg hok).mono ?_); rintro e w4 ⟨r, rfl, hr, hb⟩))
  go_ret
  exact ⟨by rw [← hr]; rfl, hb⟩
end Go.Proofs.Ytnafnhpajkhgkaa
/- cellCode: the code of a pasture and cells. No condition. -/
namespace Go.Proofs.Ytnafnhpajkhgkaa
set_option linter.unusedVariables false
set_option linter.unusedSimpArgs false
open Go.RowKit Mem
attribute [local irreducible] Calm.wpLex
set_option maxRecDepth 100000 in
theorem unless0_any (b : Bool) (c : Int) (w : World) : Calls Try.prog 60 #[.bool b, .int .i64 c] w fun e w' => e = .returned (.int .i64 (if b then 0 else c)) ∧ w = w' := by
  cases b <;> (go_enter Try.func60, Try.ntmps60; go_wp2; go_ret; exact ⟨rfl, rfl⟩)
def cellC (p : Nat → Int) (l : List Sp) : Int := if validP p then (if l.any fun g => !isC (p 0) (p 1) g.x g.y then 2 else 0) else 1
set_option maxRecDepth 100000 in
set_option maxHeartbeats 1000000 in
theorem cellCode_any (p : Nat → Int) (cs : Array Value) (v : Value) (l : List Sp) (w : World) (hp : Pv p cs) (hl : Sl w 2 v (l.map Sp.cells)) (hok : ∀ s ∈ l, s.ok) :
    Calls Try.prog 27 #[.agg cs, v] w fun e w' => e = .returned (.int .i64 (cellC p l)) ∧ Below w.heap.size w w' := by
  have hL := Own.start w
  have HP := Lib.hid hp
  have HS := Lib.hid hl
  have HOK := Lib.hid hok
  have hsz := hp.size
  clear hp hl hok
  obtain ⟨c1, e1⟩ : ∃ c, validP p = c := ⟨_, rfl⟩
  obtain ⟨c2, e2⟩ : ∃ c, (l.any fun g => !isC (p 0) (p 1) g.x g.y) = c := ⟨_, rfl⟩
  have HV : Hid (cellC p l = if c1 then (if c2 then 2 else 0) else 1) := by show cellC p l = _; unfold cellC; rw [e1, e2]
  go_enter Try.func27, Try.ntmps27
  go_wp2_with (first
    | ((with_reducible refine gate_dst (N := 2) rfl ?_); refine wpl_box (cs := cs) hL rfl rfl rfl ?_; clear hL; intro g2 w2 hL)
    | ((with_reducible refine gate_load (ty := 32) rfl ?_); refine wpl_loadW_0 hL rfl rfl (by kernel_rfl) rfl hsz (by kernel_rfl) ?_)
    | (go_at_call 59; (with_reducible refine (implValidPasture_any p cs _ HP.out).mono ?_); rintro e w4 ⟨rfl, hb⟩; rw [e1]; replace hL := hL.ext hb; clear hb; cases c1)
    | (go_at_call 61; (with_reducible refine (hasSp_any _ l p cs _ _ (HS.out.below hL.toBelow) HP.out (hL.at_ (i := 0) rfl) HOK.out).mono ?_); rintro e w4 ⟨rfl, hb⟩; rw [e2]; replace hL := hL.ext hb; clear hb; cases c2)
    | (go_at_call 60; first
      | ((with_reducible refine (unless0_any true 2 _).mono ?_); rintro e w4 ⟨rfl, rfl⟩)
      | ((with_reducible refine (unless0_any false 2 _).mono ?_); rintro e w4 ⟨rfl, rfl⟩)))
  all_goals (go_ret; exact ⟨by rw [HV.out]; rfl, hL.toBelow⟩)
end Go.Proofs.Ytnafnhpajkhgkaa
/- SetHurdle: the code of a cell and a side; both functions. No condition. -/
namespace Go.Proofs.Ytnafnhpajkhgkaa
set_option linter.unusedVariables false
set_option linter.unusedSimpArgs false
open Go.RowKit Mem Wk
attribute [local irreducible] Calls Wk.S Wk.C Wk.E Wk.X Wk.T Wk.andV Wk.shrV Calm.wpLex
theorem slSpot1 (u v : Value) (w : World) : (Instr.buildSlice 36 1 #[(0, .agg #[u, v])]).run Try.prog w = .ok (.slice (some ⟨w.heap.size, 0, none⟩) 1 1) (w.alloc (.cells #[u, v] 52 (0, 0))) := by kernel_rfl
theorem cellC1 (p : Nat → Int) (x y : Int) : cellC p [⟨x, y⟩] = if validP p then (if isC (p 0) (p 1) x y then 0 else 2) else 1 := by
  unfold cellC; simp; cases isC (p 0) (p 1) x y <;> simp
theorem cellC1_ask (p : Nat → Int) (x y : Int) (b : Bool) : (if cellC p [⟨x, y⟩] = 0 then (if b then 0 else 2) else cellC p [⟨x, y⟩]) = askC p x y b := by
  rw [cellC1]; unfold askC
  cases validP p <;> cases isC (p 0) (p 1) x y <;> cases b <;> rfl
theorem ask0 {p : Nat → Int} {x y : Int} {b : Bool} (h : askC p x y b = 0) : p 0 ≤ 10 ∧ p 1 ≤ 10 ∧ isC (p 0) (p 1) x y = true ∧ b = true := by
  unfold askC at h
  split at h
  · rename_i hv
    split at h
    · rename_i hc
      simp at hc
      unfold validP inB at hv
      simp at hv
      exact ⟨by omega, by omega, hc.1, hc.2⟩
    · cases h
  · cases h
theorem Pv.uniq {p : Nat → Int} {a b : Array Value} (h : Pv p a) (h' : Pv p b) : a = b := Pv.ext h h' (fun _ _ => rfl)
end Go.Proofs.Ytnafnhpajkhgkaa
