import Derived.Laws.AppendOwn
import Derived.Test.YtpifngdmlmfnhaaQC02
import Derived.Test.YtpifngdmlmfnhaaQC09
import Derived.Test.YtpifngdmlmfnhaaQC10
import Derived.Test.YtpifngdmlmfnhaaQC11
/- Going over sides: canGo, l01Closed, l01Set. No condition. -/
namespace Go.Proofs.Ytpifngdmlmfnhaa
set_option linter.unusedVariables false
set_option linter.unusedSimpArgs false
open Go.RowKit Mem Wk
attribute [local irreducible] Calls Wk.S Wk.C Wk.E Wk.X Wk.T Wk.andV Wk.shrV Calm.wpLex
theorem isC_range {a b x y : Int} (h : isC a b x y = true) : 0 ≤ x ∧ x < 10 ∧ 0 ≤ y ∧ y < 10 := by
  unfold isC inB at h; simp at h; omega
theorem next_range {x y side : Int} (hx : 0 ≤ x ∧ x < 10) (hy : 0 ≤ y ∧ y < 10) : (-128 ≤ nextX x side ∧ nextX x side ≤ 127) ∧ -128 ≤ nextY y side ∧ nextY y side ≤ 127 := by
  unfold nextX nextY; repeat' split
  all_goals omega
theorem hd_range {x y side : Int} (hx : 0 ≤ x ∧ x < 10) (hy : 0 ≤ y ∧ y < 10) (h : 0 ≤ nextX x side ∧ nextX x side < 10 ∧ 0 ≤ nextY y side ∧ nextY y side < 10) : (0 ≤ hdX x side ∧ hdX x side < 10) ∧ 0 ≤ hdY y side ∧ hdY y side < 10 := by
  unfold hdX hdY; repeat' split
  all_goals omega
def canB (p : Nat → Int) (x y side : Int) : Bool := isC (p 0) (p 1) (nextX x side) (nextY y side) && !standB p (hdX x side) (hdY y side) (hdS side)
set_option maxRecDepth 100000 in
set_option maxHeartbeats 400000 in
theorem canGo_any (p : Nat → Int) (cs : Array Value) (x y side : Int) (w : World) (hp : Pv p cs) (hx : 0 ≤ x ∧ x < 10) (hy : 0 ≤ y ∧ y < 10) :
    Calls Try.prog 212 #[.agg cs, .agg #[.int .i8 x, .int .i8 y], .int .i64 side] w fun e w' => e = .returned (.bool (canB p x y side)) ∧ Below w.heap.size w w' := by
  have hsz := hp.size
  have hr := next_range (side := side) hx hy
  cases hn : isC (p 0) (p 1) (nextX x side) (nextY y side)
  case' true => have hd := hd_range (side := side) hx hy (isC_range hn)
  all_goals
    refine enter3 Try.func212 rfl rfl rfl (Own.start w) ?_
    repeat' (first
      | (refine s_g ?_; first
      | (refine s_gd rfl ?_; first | refine s_gd1 rfl rfl zTr ?_ | refine s_gd0 rfl rfl rfl zTr ?_ | refine s_gd00 rfl rfl zTr ?_ | refine s_gp1 rfl rfl rfl (fun hc => ?_) (fun hc => ?_) | refine s_gp0 rfl rfl rfl (fun hc => ?_) (fun hc => ?_) | refine s_gnp1 rfl rfl rfl (fun hc => ?_) (fun hc => ?_) | refine s_gnp0 rfl rfl rfl (fun hc => ?_) (fun hc => ?_) | refine s_gb1 rfl rfl rfl (fun hc => ?_) (fun hc => ?_) | refine s_gb0 rfl rfl rfl (fun hc => ?_) (fun hc => ?_) | refine s_gnb1 rfl rfl rfl (fun hc => ?_) (fun hc => ?_) | refine s_gnb0 rfl rfl rfl (fun hc => ?_) (fun hc => ?_))
      | (refine s_k 0 rfl ?_; refine s_val rfl rfl rfl (r_move rfl rfl) ?_)
      | (refine s_k 8 rfl ?_; first | (refine' s_val rfl rfl rfl (r_ldv rfl rfl ?qm ?qv) ?_; (case qm => (exact zMm)); (case qv => (exact zLe))) | (refine' s_val rfl rfl rfl (r_ldo rfl rfl ?qw (by simp) ?qv) ?_; (case qw => assumption); (case qv => (exact zLe))))
      | (refine s_k 1 rfl ?_; refine s_val rfl rfl rfl (r_assign rfl rfl) ?_)
      | (refine s_k 35 rfl ?_; first | (refine s_call Try.func211 (by kernel_rfl) rfl rfl rfl rfl rfl rfl (fun w hL => ahead_any _ _ _ _ (by omega) (by omega)) ?_) | (refine s_call Try.func158 (by kernel_rfl) rfl rfl rfl rfl rfl rfl (fun w hL => isCell_any p cs _ _ _ hp hr.1 hr.2) ?_) | (refine s_call Try.func219 (by kernel_rfl) rfl rfl rfl rfl rfl rfl (fun w hL => hurdleAt_any _ _ _ _ (by omega) (by omega)) ?_) | (refine s_call Try.func242 (by kernel_rfl) rfl rfl rfl rfl rfl rfl (fun w hL => stands_any p cs _ _ _ _ hp hd.1 hd.2) ?_))
      | (refine s_k 14 rfl ?_; refine s_val rfl rfl rfl (r_not rfl rfl) ?_)
      | (refine s_k 2 rfl ?_; first | refine s_val rfl rfl rfl (r_pick1 rfl rfl zTr rfl) ?_ | refine s_val rfl rfl rfl (r_pick0 rfl rfl zTr rfl) ?_)
      | (refine s_k 4 rfl ?_; first | refine s_boxA rfl rfl rfl rfl rfl fun blk => ?_ | refine s_box1 rfl rfl rfl rfl rfl rfl fun blk => ?_)
      | refine s_nil ?_)
      | (refine c_g ?_; first | refine c_seq ?_ | refine c_region ?_ | (refine c_gc ?_; first | refine c_cond1 rfl zTr ?_ | refine c_cond0 rfl zTr ?_ | refine z_condd1 rfl ?_ | refine z_condd0 rfl ?_ | refine z_conddn1 rfl ?_ | refine z_conddn0 rfl ?_ | refine c_condd rfl (fun hc => ?_) (fun hc => ?_) | refine c_conddn rfl (fun hc => ?_) (fun hc => ?_) | refine c_condn rfl (fun hc => ?_) (fun hc => ?_) | refine c_cond rfl (fun hc => ?_) (fun hc => ?_)) | refine c_block ?_ | refine c_skip ?_ | refine c_exit ?_ | refine c_ret ?_)
      | (refine e_g ?_; first | refine e_then ?_ | refine e_blkn ?_ | refine e_thenx ?_ | refine e_thenr ?_ | refine e_blkr ?_ | refine e_blkx ?_ | refine e_blky rfl ?_)
      | (refine x_g ?_; first
      | (refine x_gd rfl ?_; first | refine x_gd1 rfl rfl zTr ?_ | (refine x_gd0 rfl rfl rfl zTr ?hp ?_; (case hp => exact rfl)))
      | (refine x_k 0 rfl ?_; (refine x_val rfl rfl rfl (r_move rfl rfl) ?hp ?_; (case hp => exact rfl)))
      | (refine x_k 8 rfl ?_; first | (refine' x_val rfl rfl rfl (r_ldv rfl rfl ?qm ?qv) ?hp ?_; (case qm => (exact zMm)); (case qv => (exact zLe)); (case hp => exact rfl)) | (refine' x_val rfl rfl rfl (r_ldo rfl rfl ?qw (by simp) ?qv) ?hp ?_; (case qw => assumption); (case qv => (exact zLe)); (case hp => exact rfl)))
      | (refine x_k 1 rfl ?_; (refine x_val rfl rfl rfl (r_assign rfl rfl) ?hp ?_; (case hp => exact rfl)))
      | (refine x_k 35 rfl ?_; first | (refine x_call Try.func211 (by kernel_rfl) rfl rfl rfl rfl rfl rfl (fun w hL => ahead_any _ _ _ _ (by omega) (by omega)) ?hp ?_; (case hp => exact rfl)) | (refine x_call Try.func158 (by kernel_rfl) rfl rfl rfl rfl rfl rfl (fun w hL => isCell_any p cs _ _ _ hp hr.1 hr.2) ?hp ?_; (case hp => exact rfl)) | (refine x_call Try.func219 (by kernel_rfl) rfl rfl rfl rfl rfl rfl (fun w hL => hurdleAt_any _ _ _ _ (by omega) (by omega)) ?hp ?_; (case hp => exact rfl)) | (refine x_call Try.func242 (by kernel_rfl) rfl rfl rfl rfl rfl rfl (fun w hL => stands_any p cs _ _ _ _ hp hd.1 hd.2) ?hp ?_; (case hp => exact rfl)))
      | (refine x_k 14 rfl ?_; (refine x_val rfl rfl rfl (r_not rfl rfl) ?hp ?_; (case hp => exact rfl)))
      | (refine x_k 2 rfl ?_; first | (refine x_val rfl rfl rfl (r_pick1 rfl rfl zTr rfl) ?hp ?_; (case hp => exact rfl)) | (refine x_val rfl rfl rfl (r_pick0 rfl rfl zTr rfl) ?hp ?_; (case hp => exact rfl)))
      | (refine x_k 4 rfl ?_; (refine x_boxA rfl rfl rfl rfl rfl ?hp (fun blk => ?_); (case hp => exact rfl)))
      | refine x_nil0 ?_
      | refine x_nil ?_)
      | (refine' c_drawX (id := 1) [(Sum.inl _ : Calm.Plan), (Sum.inl _ : Calm.Plan), (Sum.inl _ : Calm.Plan), (Sum.inl _ : Calm.Plan), (Sum.inl _ : Calm.Plan), (Sum.inl _ : Calm.Plan), (Sum.inl _ : Calm.Plan), (Sum.inl _ : Calm.Plan), (Sum.inl _ : Calm.Plan), (Sum.inl _ : Calm.Plan), (Sum.inl _ : Calm.Plan), (Sum.inl _ : Calm.Plan), (Sum.inl _ : Calm.Plan), (Sum.inl _ : Calm.Plan)] (by kernel_rfl) (by kernel_rfl) (by kernel_rfl) ?_)
      | (refine e_ret1 (by simp) rfl (re_tmp rfl) fun w hL => ⟨?_, hL.toBelow⟩))
    all_goals (simp [canB, *]; done)
set_option maxRecDepth 100000 in
set_option maxHeartbeats 400000 in
theorem l01Closed_any (p : Nat → Int) (cs : Array Value) (T : TypeId) (g : Nat) (x y side : Int) (w : World) (hp : Pv p cs) (hg : w.heap[g]? = some (.cells cs T (0, 0))) (ha : p 0 ≤ 10) (hb : p 1 ≤ 10) (hx : 0 ≤ x ∧ x < 10) (hy : 0 ≤ y ∧ y < 10) (hs : 0 ≤ side ∧ side ≤ 3) :
    Calls Try.prog 215 #[.pointer (some ⟨g, 0, none⟩), .agg #[.int .i8 x, .int .i8 y], .int .i64 side] w fun e w' => e = .returned (.bool (!canB p x y side)) ∧ Below w.heap.size w w' := by
  have hsz := hp.size
  have hr := next_range (side := side) hx hy
  cases hn : isC (p 0) (p 1) (nextX x side) (nextY y side)
  case' true => have hd := isC_range hn
  all_goals
    refine enter3 Try.func215 rfl rfl rfl (Own.start w) ?_
    repeat' (first
      | (refine s_g ?_; first
      | (refine s_k 0 rfl ?_; refine s_val rfl rfl rfl (r_move rfl rfl) ?_)
      | (refine s_k 23 rfl ?_; first | refine s_val rfl rfl rfl (r_field tb rfl rfl rfl) ?_ | refine s_val rfl rfl rfl (r_fieldS tb rfl rfl rfl) ?_)
      | (refine s_k 8 rfl ?_; first | (refine' s_val rfl rfl rfl (r_ldv rfl rfl ?qm ?qv) ?_; (case qm => (exact zMm)); (case qv => (first | exact ldvL tb rfl rfl | exact ldv1 tb rfl (by assumption) | exact ldv1 tb rfl (hp.eastA (by omega) (by omega)) | exact ldv1 tb rfl (hp.southA (by omega) (by omega)) | exact zLd))) | (refine' s_val rfl rfl rfl (r_ldo rfl rfl ?qw (by simp) ?qv) ?_; (case qw => assumption); (case qv => (first | exact ldvL tb rfl rfl | exact ldv1 tb rfl (by assumption) | exact ldv1 tb rfl (hp.eastA (by omega) (by omega)) | exact ldv1 tb rfl (hp.southA (by omega) (by omega)) | exact zLd))))
      | (refine s_k 1 rfl ?_; refine s_val rfl rfl rfl (r_assign rfl rfl) ?_)
      | (refine s_k 13 rfl ?_; first | refine s_val rfl rfl rfl (r_eql rfl rfl rfl) ?_ | refine s_val rfl rfl rfl (r_and rfl rfl rfl) ?_ | refine s_val rfl rfl rfl (r_shr rfl rfl rfl (by omega)) ?_)
      | (refine s_k 35 rfl ?_; first | (refine s_call Try.func214 (by kernel_rfl) rfl rfl rfl rfl rfl rfl (fun w hL => l01Next_any _ _ _ _ (by omega) (by omega)) ?_) | (refine s_call Try.func201 (by kernel_rfl) rfl rfl rfl rfl rfl rfl (fun w hL => l01Is_any p cs T g _ _ _ hp (Kn.old hL hg (by simp)) ha hb hr.1 hr.2) ?_))
      | (refine s_k 15 rfl ?_; refine s_val rfl rfl rfl (r_conv tb rfl rfl rfl rfl (wrap_in (by simp only [lo, hi]; omega))) ?_)
      | (refine s_k 14 rfl ?_; refine s_val rfl rfl rfl (r_not rfl rfl) ?_)
      | (refine s_k 25 rfl ?_; first | refine s_val rfl rfl rfl (r_ixN tb rfl rfl rfl rfl (by omega)) ?_ | refine s_val rfl rfl rfl (r_ixA tb rfl rfl rfl rfl (by omega) (by omega)) ?_ | refine s_val rfl rfl rfl (r_ixO tb rfl rfl rfl rfl (by omega)) ?_)
      | (refine s_k 4 rfl ?_; first | refine s_boxA rfl rfl rfl rfl rfl fun blk => ?_ | refine s_box1 rfl rfl rfl rfl rfl rfl fun blk => ?_)
      | (refine s_k 9 rfl ?_; (first | refine s_st1 tb rfl rfl rfl rfl rfl rfl rfl rfl ?_ | refine s_stA tb rfl rfl rfl rfl (by first | rfl | assumption | (apply Pv.size; assumption)) rfl rfl ?_); (first | refine' st0 ?qs ?_ | refine' st1 ?qs ?_ | refine' st2 ?qs ?_ | refine' st3 ?qs ?_ | refine' st4 ?qs ?_ | refine' st5 ?qs ?_ | refine' st6 ?qs ?_ | refine' st7 ?qs ?_ | refine' st8 ?qs ?_ | refine' st9 ?qs ?_ | refine' st10 ?qs ?_ | refine' st11 ?qs ?_); (case qs => (first | exact zSet)))
      | (refine s_k 3 rfl ?_; refine s_allocA (t := 88) rfl zImplSpot rfl rfl rfl fun blk => ?_)
      | (refine s_k 12 rfl ?_; refine s_val rfl rfl rfl (r_nil rfl rfl) ?_)
      | refine s_nil ?_)
      | (refine c_g ?_; first | refine c_seq ?_ | refine c_region ?_ | (refine c_gc ?_; first | refine c_cond1 rfl zTr ?_ | refine c_cond0 rfl zTr ?_ | refine z_condd1 rfl ?_ | refine z_condd0 rfl ?_ | refine z_conddn1 rfl ?_ | refine z_conddn0 rfl ?_ | refine c_condd rfl (fun hc => ?_) (fun hc => ?_) | refine c_conddn rfl (fun hc => ?_) (fun hc => ?_) | refine c_condn rfl (fun hc => ?_) (fun hc => ?_) | refine c_cond rfl (fun hc => ?_) (fun hc => ?_)) | refine c_block ?_ | refine c_skip ?_ | refine c_exit ?_ | refine c_ret ?_)
      | (refine e_g ?_; first | refine e_then ?_ | refine e_blkn ?_ | refine e_thenx ?_ | refine e_thenr ?_ | refine e_blkr ?_ | refine e_blkx ?_ | refine e_blky rfl ?_)
      | (refine x_g ?_; first
      | (refine x_k 0 rfl ?_; (refine x_val rfl rfl rfl (r_move rfl rfl) ?hp ?_; (case hp => exact rfl)))
      | (refine x_k 23 rfl ?_; first | (refine x_val rfl rfl rfl (r_field tb rfl rfl rfl) ?hp ?_; (case hp => exact rfl)) | (refine x_val rfl rfl rfl (r_fieldS tb rfl rfl rfl) ?hp ?_; (case hp => exact rfl)))
      | (refine x_k 8 rfl ?_; first | (refine' x_val rfl rfl rfl (r_ldv rfl rfl ?qm ?qv) ?hp ?_; (case qm => (exact zMm)); (case qv => (first | exact ldvL tb rfl rfl | exact ldv1 tb rfl (by assumption) | exact ldv1 tb rfl (hp.eastA (by omega) (by omega)) | exact ldv1 tb rfl (hp.southA (by omega) (by omega)) | exact zLd)); (case hp => exact rfl)) | (refine' x_val rfl rfl rfl (r_ldo rfl rfl ?qw (by simp) ?qv) ?hp ?_; (case qw => assumption); (case qv => (first | exact ldvL tb rfl rfl | exact ldv1 tb rfl (by assumption) | exact ldv1 tb rfl (hp.eastA (by omega) (by omega)) | exact ldv1 tb rfl (hp.southA (by omega) (by omega)) | exact zLd)); (case hp => exact rfl)))
      | (refine x_k 1 rfl ?_; (refine x_val rfl rfl rfl (r_assign rfl rfl) ?hp ?_; (case hp => exact rfl)))
      | (refine x_k 13 rfl ?_; first | (refine x_val rfl rfl rfl (r_eql rfl rfl rfl) ?hp ?_; (case hp => exact rfl)) | (refine x_val rfl rfl rfl (r_and rfl rfl rfl) ?hp ?_; (case hp => exact rfl)) | (refine x_val rfl rfl rfl (r_shr rfl rfl rfl (by omega)) ?hp ?_; (case hp => exact rfl)))
      | (refine x_k 35 rfl ?_; first | (refine x_call Try.func214 (by kernel_rfl) rfl rfl rfl rfl rfl rfl (fun w hL => l01Next_any _ _ _ _ (by omega) (by omega)) ?hp ?_; (case hp => exact rfl)) | (refine x_call Try.func201 (by kernel_rfl) rfl rfl rfl rfl rfl rfl (fun w hL => l01Is_any p cs T g _ _ _ hp (Kn.old hL hg (by simp)) ha hb hr.1 hr.2) ?hp ?_; (case hp => exact rfl)))
      | (refine x_k 15 rfl ?_; (refine x_val rfl rfl rfl (r_conv tb rfl rfl rfl rfl (wrap_in (by simp only [lo, hi]; omega))) ?hp ?_; (case hp => exact rfl)))
      | (refine x_k 14 rfl ?_; (refine x_val rfl rfl rfl (r_not rfl rfl) ?hp ?_; (case hp => exact rfl)))
      | (refine x_k 25 rfl ?_; first | (refine x_val rfl rfl rfl (r_ixN tb rfl rfl rfl rfl (by omega)) ?hp ?_; (case hp => exact rfl)) | (refine x_val rfl rfl rfl (r_ixA tb rfl rfl rfl rfl (by omega) (by omega)) ?hp ?_; (case hp => exact rfl)) | (refine x_val rfl rfl rfl (r_ixO tb rfl rfl rfl rfl (by omega)) ?hp ?_; (case hp => exact rfl)))
      | (refine x_k 4 rfl ?_; (refine x_boxA rfl rfl rfl rfl rfl ?hp (fun blk => ?_); (case hp => exact rfl)))
      | (refine x_k 9 rfl ?_; first | (refine' x_putA0 tb rfl rfl rfl rfl (by first | rfl | assumption | (apply Pv.size; assumption)) ?qs (by first | rfl | assumption | (apply Pv.size; assumption)) rfl rfl ?hp ?_; (case qs => (first | exact zSet)); (case hp => exact rfl)) | (refine' x_putA1 tb rfl rfl rfl rfl (by first | rfl | assumption | (apply Pv.size; assumption)) ?qs (by first | rfl | assumption | (apply Pv.size; assumption)) rfl rfl ?hp ?_; (case qs => (first | exact zSet)); (case hp => exact rfl)) | (refine' x_putA2 tb rfl rfl rfl rfl (by first | rfl | assumption | (apply Pv.size; assumption)) ?qs (by first | rfl | assumption | (apply Pv.size; assumption)) rfl rfl ?hp ?_; (case qs => (first | exact zSet)); (case hp => exact rfl)))
      | (refine x_k 3 rfl ?_; (refine x_allocA (t := 88) rfl zImplSpot rfl rfl rfl ?hp (fun blk => ?_); (case hp => exact rfl)))
      | (refine x_k 12 rfl ?_; (refine x_val rfl rfl rfl (r_nil rfl rfl) ?hp ?_; (case hp => exact rfl)))
      | refine x_nil0 ?_
      | refine x_nil ?_)
      | (refine' c_drawX (id := 6) [(Sum.inl _ : Calm.Plan), (Sum.inl _ : Calm.Plan), (Sum.inl _ : Calm.Plan), (Sum.inl _ : Calm.Plan), (Sum.inl _ : Calm.Plan), (Sum.inl _ : Calm.Plan), (Sum.inl _ : Calm.Plan), (Sum.inl _ : Calm.Plan), (Sum.inl _ : Calm.Plan), (Sum.inl _ : Calm.Plan), (Sum.inl _ : Calm.Plan), (Sum.inl _ : Calm.Plan), (Sum.inl _ : Calm.Plan), (Sum.inl _ : Calm.Plan)] (by kernel_rfl) (by kernel_rfl) (by kernel_rfl) ?_)
      | (refine' c_drawX (id := 8) [(Sum.inl _ : Calm.Plan), (Sum.inl _ : Calm.Plan), (Sum.inl _ : Calm.Plan), (Sum.inl _ : Calm.Plan), (Sum.inl _ : Calm.Plan), (Sum.inl _ : Calm.Plan), (Sum.inl _ : Calm.Plan), (Sum.inl _ : Calm.Plan), (Sum.inl _ : Calm.Plan), (Sum.inl _ : Calm.Plan), (Sum.inl _ : Calm.Plan), (Sum.inl _ : Calm.Plan), (Sum.inl _ : Calm.Plan), (Sum.inl _ : Calm.Plan)] (by kernel_rfl) (by kernel_rfl) (by kernel_rfl) ?_)
      | (refine' c_drawX (id := 10) [(Sum.inl _ : Calm.Plan), (Sum.inl _ : Calm.Plan), (Sum.inl _ : Calm.Plan), (Sum.inl _ : Calm.Plan), (Sum.inl _ : Calm.Plan), (Sum.inl _ : Calm.Plan), (Sum.inl _ : Calm.Plan), (Sum.inl _ : Calm.Plan), (Sum.inl _ : Calm.Plan), (Sum.inl _ : Calm.Plan), (Sum.inl _ : Calm.Plan), (Sum.inl _ : Calm.Plan), (Sum.inl _ : Calm.Plan), (Sum.inl _ : Calm.Plan)] (by kernel_rfl) (by kernel_rfl) (by kernel_rfl) ?_)
      | (refine' c_drawX (id := 11) [(Sum.inl _ : Calm.Plan), (Sum.inl _ : Calm.Plan), (Sum.inl _ : Calm.Plan), (Sum.inl _ : Calm.Plan), (Sum.inl _ : Calm.Plan), (Sum.inl _ : Calm.Plan), (Sum.inl _ : Calm.Plan), (Sum.inl _ : Calm.Plan), (Sum.inl _ : Calm.Plan), (Sum.inl _ : Calm.Plan), (Sum.inl _ : Calm.Plan), (Sum.inl _ : Calm.Plan), (Sum.inl _ : Calm.Plan), (Sum.inl _ : Calm.Plan)] (by kernel_rfl) (by kernel_rfl) (by kernel_rfl) ?_)
      | (refine e_ret1 (by simp) rfl (re_tmp rfl) fun w hL => ⟨?_, hL.toBelow⟩))
    all_goals
      (unfold canB; rw [hn]
       rcases (show side = 0 ∨ side = 1 ∨ side = 2 ∨ side = 3 by omega) with h | h | h | h <;> subst h <;> first | omega | (simp [standB, bitB, hdX, hdY, hdS, nextX, nextY]; done))
end Go.Proofs.Ytpifngdmlmfnhaa
/- append to a slice of the walk's own. Plain theorems; no condition but that the lengths are not beyond all bounds. -/
namespace Go.Proofs.Ytpifngdmlmfnhaa.Wk
set_option linter.unusedVariables false
set_option linter.unusedSimpArgs false
open Go Go.RowKit Mem
variable {P : Program} {n : Nat} {O : List Nat} {w0 : World} {l : List (Nat × Value)} {L pre post : List (Nat × TypeId × Array Value)} {Q : Exit → Act → World → Prop} {ops : Array Oper} {o : Oper} {rest : List Oper} {d : Nat} {x y : Operand}
theorem Kn.perm {w : World} {L' : List (Nat × TypeId × Array Value)} (h : Kn O w0 w L) (hp : L.Perm L') : Kn O w0 w L' :=
  ⟨h.os, h.tape, h.output, h.size, h.base, fun k hk hx => h.keep k hk fun b hb => hx b (hp.mem_iff.1 hb), fun b hb => h.low b (hp.mem_iff.2 hb), fun b hb => h.has b (hp.mem_iff.2 hb), (hp.map _).nodup_iff.1 h.nodup⟩
theorem SlA.at_ {O : List Nat} {w0 w : World} {sz : Nat} {A : Option Addr} {xs : List (List Value)} {L : List (Nat × TypeId × Array Value)} (hS : SlA O w0 sz A xs) (hL : Kn O w0 w L) : SlA O w sz A xs := fun i c h => by
  obtain ⟨a, b, d, e, g, h'⟩ := hS i c h
  exact ⟨a, b, d, e, g, fun j u hu => Kn.oldc hL (h' j u hu) g⟩
theorem Kn.rid {w : World} {b : Nat × TypeId × Array Value} (h : Kn O w0 w (b :: L)) (hb : b.1 ∉ O) : Kn O w0 w L :=
  Own.drop h 1 fun a ha => by
    have e : a = b := by simpa using ha
    subst e
    exact (h.low a List.mem_cons_self).resolve_right hb
theorem Kn.swapIn {w : World} {a b : Nat × TypeId × Array Value} (h : Kn O w0 w (b :: (pre ++ a :: post))) (ha : a.1 ∉ O) : Kn O w0 w (pre ++ b :: post) := by
  have h1 : Kn O w0 w (a :: b :: (pre ++ post)) := h.perm (((List.perm_middle (l₁ := pre) (a := a) (l₂ := post)).cons b).trans (List.Perm.swap a b _))
  exact (h1.rid ha).perm List.perm_middle.symm
/-- A slice of the walk's own: n elements of sz cells in a block cur that has room for cap. -/
structure Ap (sz n cap : Nat) (cur : Array Value) (xs : List Value) : Prop where
  len : xs.length = n * sz
  le : n ≤ cap
  max : cap ≤ maxLen
  size : cur.size = cap * sz
  take : cur.toList.take (n * sz) = xs
theorem Ap.nil (sz : Nat) : Ap sz 0 0 #[] [] := ⟨by simp, Nat.le_refl _, by unfold maxLen; omega, by simp, by simp⟩
/-- What append gives; and what stands then. -/
theorem run_app {t ty e : TypeId} {z : Value} {sz bytes : Nat} (ht : P.underlying t = some (.slice e)) (hi : (P.info? e).map (fun i => (i.zero, i.size, i.bytes)) = some (some z, sz, bytes)) (hzs : z.cells.size = sz) (hsz : 0 < sz)
    {w : World} {g k cap : Nat} {cur : Array Value} {xs : List Value} (hA : Ap sz k cap cur xs) (hL : Kn O w0 w (pre ++ (g, e, cur) :: post)) (hO : g ∉ O) {g2 m c : Nat} {T2 : TypeId} {c2 : Array Value} (h2 : w.heap[g2]? = some (.cells c2 T2 (0, 0))) {news : List Value} (hl : news.length = m * sz) (hn : c2.toList.take (m * sz) = news) (h1 : ∀ u ∈ news, u.oneCell' = true)
    (h63 : k + m ≤ maxLen) (hbytes : (k + m) * bytes ≤ 140737488355328) :
    ∃ g' cap' cur' w', (Builtin.append_ #[t, t] ty #[.slice (some ⟨g, 0, none⟩) k cap, .slice (some ⟨g2, 0, none⟩) m c]).run P w = .ok (.slice (some ⟨g', 0, none⟩) (k + m) cap') w' ∧ Ap sz (k + m) cap' cur' (xs ++ news) ∧ Kn O w0 w' (pre ++ (g', e, cur') :: post) := by
  obtain ⟨i, q1, q2, q3, q4⟩ := info_parts hi
  subst q3; subst q4
  have hg := hL.has (g, e, cur) (by simp)
  have hnews : ∀ j u, news[j]? = some u → w.cell? ((⟨g2, 0, none⟩ : Addr).add j) = some u := fun j u hu => by
    rw [add_lit0, Nat.zero_add, cell_of_row w g2 j c2 T2 (0, 0) h2]
    subst hn
    rw [List.getElem?_take] at hu
    split at hu
    · simpa using hu
    · cases hu
  have hlen : (xs ++ news).length = (k + m) * i.size := by rw [List.length_append, hA.len, hl, Nat.add_mul]
  by_cases hroom : k + m ≤ cap
  · have hfit : k * i.size + news.length ≤ cur.size := by rw [hl, hA.size, ← Nat.add_mul]; exact Nat.mul_le_mul_right _ hroom
    have hr := run_append_room (P := P) w t ty e i ht q1 g k cap cur hg ⟨g2, 0, none⟩ m c news hl hnews h1 hroom hfit
    refine ⟨g, cap, (cur.toList.take (k * i.size) ++ news ++ cur.toList.drop (k * i.size + news.length)).toArray, _, hr, ⟨hlen, hroom, hA.max, ?_, ?_⟩, ?_⟩
    · have := hA.size
      simp only [List.size_toArray, List.length_append, List.length_take, List.length_drop, Array.length_toList]
      omega
    · rw [hA.take, ← hlen]
      exact List.take_left
    · have hp : Kn O w0 w ((g, e, cur) :: (pre ++ post)) := hL.perm List.perm_middle
      exact Kn.perm (L := (g, e, _) :: (pre ++ post)) (Own.put hp (i := 0) rfl _) List.perm_middle.symm
  · have holds : ∀ j u, xs[j]? = some u → w.cell? ((⟨g, 0, none⟩ : Addr).add j) = some u := fun j u hu => by
      rw [add_lit0, Nat.zero_add, cell_of_row w g j cur e (0, 0) hg]
      rw [← hA.take, List.getElem?_take] at hu
      split at hu
      · simpa using hu
      · cases hu
    have hsmall : k + m ≤ 9223372036854775807 := by simp only [maxLen] at h63; omega
    have hle := hA.le
    have hr := run_append_grow (P := P) w t ty e i z ht q1 q2 ⟨g, 0, none⟩ k cap xs hA.len holds ⟨g2, 0, none⟩ m c news hl hnews (by omega) (by omega) (growslice_fits (by omega) hbytes)
    have hge := grownCap_ge w (k + m) cap e
    refine ⟨w.heap.size, grownCap w (k + m) cap e, xs.toArray ++ news.toArray ++ Builtin.zeroCells z.cells (grownCap w (k + m) cap e - (k + m)), _, hr, ⟨hlen, hge, grownCap_le_maxLen w (k + m) cap e h63, ?_, ?_⟩, ?_⟩
    · simp only [Array.size_append, List.size_toArray, size_zeroCells, hzs, hA.len, hl, ← Nat.add_mul]
      congr 1
      omega
    · simp only [Array.toList_append, List.append_assoc]
      rw [← List.append_assoc, ← hlen]
      exact List.take_left
    · exact Kn.swapIn (b := (w.heap.size, e, _)) (a := (g, e, cur)) (Own.new (Own.drew hL) e _) hO
theorem s_app {t e : TypeId} {z : Value} {sz bytes : Nat} (ho : o.op = .call { callee := .builtin .append, args := #[x, y], argTypes := #[t, t] }) (ht : P.underlying t = some (.slice e)) (hi : (P.info? e).map (fun i => (i.zero, i.size, i.bytes)) = some (some z, sz, bytes)) (hzs : z.cells.size = sz) (hsz : 0 < sz)
    {g k cap : Nat} {cur : Array Value} {xs : List Value} (hA : Ap sz k cap cur xs) (hO : g ∉ O) {g2 m c : Nat} {T2 : TypeId} {c2 : Array Value} {news : List Value} (hx : ev l x = some (.slice (some ⟨g, 0, none⟩) k cap)) (hy : ev l y = some (.slice (some ⟨g2, 0, none⟩) m c)) (hm : (g2, T2, c2) ∈ pre ++ (g, e, cur) :: post) (hl : news.length = m * sz) (hn : c2.toList.take (m * sz) = news) (h1 : ∀ u ∈ news, u.oneCell' = true)
    (h63 : k + m ≤ maxLen) (hbytes : (k + m) * bytes ≤ 140737488355328) (hg : o.guard = none) (hd : o.dst = some d) (hdn : Nat.blt d n = true)
    (h : ∀ g' cap' cur', Ap sz (k + m) cap' cur' (xs ++ news) → S P ops Q n O w0 rest ((d, .slice (some ⟨g', 0, none⟩) (k + m) cap') :: l) (pre ++ (g', e, cur') :: post)) : S P ops Q n O w0 (o :: rest) l (pre ++ (g, e, cur) :: post) := fun a w hF hL =>
  wpList_plain hg fun K hK => by
    obtain ⟨g', cap', cur', w', hr, hA', hL'⟩ := run_app (P := P) (ty := o.type) (c := c) ht hi hzs hsz hA hL hO (hL.has _ hm) hl hn h1 h63 hbytes
    unfold Oper.wp execOp
    simp only [ho, resolve, invoke, builtin, Sem.run_bind, Sem.run_pure, Result.andThen_ok, List.map_toArray, List.map_cons, List.map_nil, hF.eval hx, hF.eval hy, hr]
    show K (a.put o.dst _) w'
    rw [hd]
    exact hK _ _ (h g' cap' cur' hA' _ _ (hF.put hdn _) hL')
theorem s_app0 {t e : TypeId} {z : Value} {sz bytes : Nat} {g k cap : Nat} {cur : Array Value} {xs : List Value} {g2 m c : Nat} {T2 : TypeId} {c2 : List Value} (hA : Ap sz k cap cur xs) (ho : o.op = .call { callee := .builtin .append, args := #[x, y], argTypes := #[t, t] }) (hx : ev l x = some (.slice (some ⟨g, 0, none⟩) k cap)) (hy : ev l y = some (.slice (some ⟨g2, 0, none⟩) m c)) (ht : P.underlying t = some (.slice e)) (hi : (P.info? e).map (fun i => (i.zero, i.size, i.bytes)) = some (some z, sz, bytes)) (hzs : z.cells.size = sz) (hsz : 0 < sz) (hO : g ∉ O) (hO2 : g2 ∉ O) (hl : c2.length = m * sz) (h1 : ∀ u ∈ c2, u.oneCell' = true)
    (h63 : k + m ≤ maxLen) (hbytes : (k + m) * bytes ≤ 140737488355328) (hg : o.guard = none) (hd : o.dst = some d) (hdn : Nat.blt d n = true)
    (h : ∀ g' cap' cur', Ap sz (k + m) cap' cur' (xs ++ c2) → S P ops Q n O w0 rest ((d, .slice (some ⟨g', 0, none⟩) (k + m) cap') :: l) ((g', e, cur') :: L)) : S P ops Q n O w0 (o :: rest) l ((g2, T2, c2.toArray) :: (g, e, cur) :: L) :=
  s_app (pre := [(g2, T2, c2.toArray)]) (post := L) ho ht hi hzs hsz hA hO hx hy List.mem_cons_self hl (by rw [← hl]; simp) h1 h63 hbytes hg hd hdn (fun g' cap' cur' hA' a w hF hL => h g' cap' cur' hA' a w hF (Kn.rid hL hO2))
theorem s_app1 {b0 : Nat × TypeId × Array Value} {t e : TypeId} {z : Value} {sz bytes : Nat} {g k cap : Nat} {cur : Array Value} {xs : List Value} {g2 m c : Nat} {T2 : TypeId} {c2 : List Value} (hA : Ap sz k cap cur xs) (ho : o.op = .call { callee := .builtin .append, args := #[x, y], argTypes := #[t, t] }) (hx : ev l x = some (.slice (some ⟨g, 0, none⟩) k cap)) (hy : ev l y = some (.slice (some ⟨g2, 0, none⟩) m c)) (ht : P.underlying t = some (.slice e)) (hi : (P.info? e).map (fun i => (i.zero, i.size, i.bytes)) = some (some z, sz, bytes)) (hzs : z.cells.size = sz) (hsz : 0 < sz) (hO : g ∉ O) (hO2 : g2 ∉ O) (hl : c2.length = m * sz) (h1 : ∀ u ∈ c2, u.oneCell' = true)
    (h63 : k + m ≤ maxLen) (hbytes : (k + m) * bytes ≤ 140737488355328) (hg : o.guard = none) (hd : o.dst = some d) (hdn : Nat.blt d n = true)
    (h : ∀ g' cap' cur', Ap sz (k + m) cap' cur' (xs ++ c2) → S P ops Q n O w0 rest ((d, .slice (some ⟨g', 0, none⟩) (k + m) cap') :: l) (b0 :: (g', e, cur') :: L)) : S P ops Q n O w0 (o :: rest) l ((g2, T2, c2.toArray) :: b0 :: (g, e, cur) :: L) :=
  s_app (pre := [(g2, T2, c2.toArray), b0]) (post := L) ho ht hi hzs hsz hA hO hx hy List.mem_cons_self hl (by rw [← hl]; simp) h1 h63 hbytes hg hd hdn (fun g' cap' cur' hA' a w hF hL => h g' cap' cur' hA' a w hF (Kn.rid hL hO2))
theorem s_app2 {b0 b1 : Nat × TypeId × Array Value} {t e : TypeId} {z : Value} {sz bytes : Nat} {g k cap : Nat} {cur : Array Value} {xs : List Value} {g2 m c : Nat} {T2 : TypeId} {c2 : List Value} (hA : Ap sz k cap cur xs) (ho : o.op = .call { callee := .builtin .append, args := #[x, y], argTypes := #[t, t] }) (hx : ev l x = some (.slice (some ⟨g, 0, none⟩) k cap)) (hy : ev l y = some (.slice (some ⟨g2, 0, none⟩) m c)) (ht : P.underlying t = some (.slice e)) (hi : (P.info? e).map (fun i => (i.zero, i.size, i.bytes)) = some (some z, sz, bytes)) (hzs : z.cells.size = sz) (hsz : 0 < sz) (hO : g ∉ O) (hO2 : g2 ∉ O) (hl : c2.length = m * sz) (h1 : ∀ u ∈ c2, u.oneCell' = true)
    (h63 : k + m ≤ maxLen) (hbytes : (k + m) * bytes ≤ 140737488355328) (hg : o.guard = none) (hd : o.dst = some d) (hdn : Nat.blt d n = true)
    (h : ∀ g' cap' cur', Ap sz (k + m) cap' cur' (xs ++ c2) → S P ops Q n O w0 rest ((d, .slice (some ⟨g', 0, none⟩) (k + m) cap') :: l) (b0 :: b1 :: (g', e, cur') :: L)) : S P ops Q n O w0 (o :: rest) l ((g2, T2, c2.toArray) :: b0 :: b1 :: (g, e, cur) :: L) :=
  s_app (pre := [(g2, T2, c2.toArray), b0, b1]) (post := L) ho ht hi hzs hsz hA hO hx hy List.mem_cons_self hl (by rw [← hl]; simp) h1 h63 hbytes hg hd hdn (fun g' cap' cur' hA' a w hF hL => h g' cap' cur' hA' a w hF (Kn.rid hL hO2))
end Go.Proofs.Ytpifngdmlmfnhaa.Wk
/- cellCode: the code of a pasture and cells. No condition. -/
namespace Go.Proofs.Ytpifngdmlmfnhaa
set_option linter.unusedVariables false
set_option linter.unusedSimpArgs false
open Go.RowKit Mem
attribute [local irreducible] Calm.wpLex
set_option maxRecDepth 100000 in
theorem unless0_any (b : Bool) (c : Int) (w : World) : Calls Try.prog 102 #[.bool b, .int .i64 c] w fun e w' => e = .returned (.int .i64 (if b then 0 else c)) ∧ w = w' := by
  cases b <;> (go_enter Try.func102, Try.ntmps102; go_wp2; go_ret; exact ⟨rfl, rfl⟩)
end Go.Proofs.Ytpifngdmlmfnhaa
/- SetHurdle: the code of a cell and a side; both functions. No condition. -/
namespace Go.Proofs.Ytpifngdmlmfnhaa
set_option linter.unusedVariables false
set_option linter.unusedSimpArgs false
open Go.RowKit Mem Wk
attribute [local irreducible] Calls Wk.S Wk.C Wk.E Wk.X Wk.T Wk.andV Wk.shrV Calm.wpLex
theorem slSpot1 (u v : Value) (w : World) : (Instr.buildSlice 40 1 #[(0, .agg #[u, v])]).run Try.prog w = .ok (.slice (some ⟨w.heap.size, 0, none⟩) 1 1) (w.alloc (.cells #[u, v] 88 (0, 0))) := by kernel_rfl
theorem slInt2 (a b : Int) (w : World) : (Instr.buildSlice 108 2 #[(0, .int .i64 a), (1, .int .i64 b)]).run Try.prog w = .ok (.slice (some ⟨w.heap.size, 0, none⟩) 2 2) (w.alloc (.cells #[.int .i64 a, .int .i64 b] 2 (0, 0))) := by kernel_rfl
theorem Pv.uniq {p : Nat → Int} {a b : Array Value} (h : Pv p a) (h' : Pv p b) : a = b := Pv.ext h h' (fun _ _ => rfl)
end Go.Proofs.Ytpifngdmlmfnhaa
