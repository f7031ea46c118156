import Derived.Test.YtpifngdmlmfnhaaQE22
/- What the laws draw: a valid pasture, a cell, a number. No condition but codes of at most 2^20 bytes. -/
namespace Go.Proofs.Ytpifngdmlmfnhaa
set_option linter.unusedVariables false
set_option linter.unusedSimpArgs false
open Go.RowKit Mem Wk
attribute [local irreducible] Calls Wk.S Wk.C Wk.E Wk.X Wk.T Wk.Y Wk.Z Wk.anV Wk.orV Wk.andV Wk.shlV Wk.shrV Calm.wpLex CalmB.wpLex CalmE.wpLex
set_option maxRecDepth 100000 in
theorem P6Pasture_any (bs : List Int) (A : Option Addr) (cap : Nat) (w : World) (hS : SlA [] w 1 A (byC bs)) (hb : ∀ b ∈ bs, 0 ≤ b ∧ b ≤ 255) (hn : bs.length ≤ 1048576) :
    Calls Try.prog 58 #[.slice A bs.length cap] w fun e w' => ∃ i : (Nat → Int) × Array Value, (Pv i.1 i.2 ∧ validP i.1 = true ∧ small i.1) ∧ e = .returned (.agg i.2) ∧ Below w.heap.size w w' := by
  refine enter1 Try.func58 rfl rfl rfl (Own.start w) ?_
  repeat' (first
    | (refine s_g ?_; first
      | (refine s_k 0 rfl ?_; refine s_val rfl rfl rfl (r_move rfl rfl) ?_)
      | (refine s_k 35 rfl ?_; first | (refine s_from Try.func155 (by kernel_rfl) rfl rfl rfl rfl rfl rfl (fun w hL => from_any A bs.length cap w) fun gs => ?_) | (refine s_callR (ι := (Nat → Int) × Array Value × Int × Int) (fun i => Pv i.1 i.2.1 ∧ validP i.1 = true ∧ small i.1) (fun i => .agg i.2.1) (fun i => [(gs, 263, srcC A bs.length cap i.2.2.1 i.2.2.2), (_, 34, zP)]) Try.func154 (by kernel_rfl) rfl rfl rfl rfl rfl rfl (fun w hL => (drawn_any bs A cap _ 0 0 w (SlA.away hS hL m0 (by omega)) hb hn (by omega) (by omega) (hL.at_ m0)).mono fun e w' ⟨i, hi, he, hu⟩ => ⟨i, ⟨hi.1, hi.2.1, hi.2.2.1⟩, he, Kn.upd (i := 0) hL rfl hu⟩) (fun i hi => ?_); obtain ⟨q, c, at9, sd9⟩ := i; simp only at hi ⊢; have hpq := hi.1))
      | (refine s_k 9 rfl ?_; (first | refine s_st1 tb rfl rfl rfl rfl rfl rfl rfl rfl ?_ | refine s_stA tb rfl rfl rfl rfl (by first | rfl | assumption | (apply Pv.size; assumption)) rfl rfl ?_); (first | refine' st0 ?qs ?_ | refine' st1 ?qs ?_ | refine' st2 ?qs ?_ | refine' st3 ?qs ?_ | refine' st4 ?qs ?_ | refine' st5 ?qs ?_ | refine' st6 ?qs ?_ | refine' st7 ?qs ?_ | refine' st8 ?qs ?_ | refine' st9 ?qs ?_ | refine' st10 ?qs ?_ | refine' st11 ?qs ?_); (case qs => (first | exact setP hpq rfl | exact zSet)))
      | (refine s_k 3 rfl ?_; refine s_allocA (t := 34) rfl zImplPas rfl rfl rfl fun blk => ?_)
      | refine s_nil ?_)
    | (refine c_g ?_; first | refine c_seq ?_ | refine c_region ?_ | (refine c_gc ?_; first | refine c_cond1 rfl zTr ?_ | refine c_cond0 rfl zTr ?_ | refine z_condd1 rfl ?_ | refine z_condd0 rfl ?_ | refine z_conddn1 rfl ?_ | refine z_conddn0 rfl ?_ | refine c_condd rfl (fun hc => ?_) (fun hc => ?_) | refine c_conddn rfl (fun hc => ?_) (fun hc => ?_) | refine c_condn rfl (fun hc => ?_) (fun hc => ?_) | refine c_cond rfl (fun hc => ?_) (fun hc => ?_)) | refine c_block ?_ | refine c_skip ?_ | refine c_exit ?_ | refine c_ret ?_)
    | (refine e_g ?_; first | refine e_then ?_ | refine e_blkn ?_ | refine e_thenx ?_ | refine e_thenr ?_ | refine e_blkr ?_ | refine e_blkx ?_ | refine e_blky rfl ?_)
    | (refine e_ret1 (by simp) rfl (re_cell tb rfl m1 rfl hpq.size) fun w hL => ⟨(q, c), hi, rfl, hL.toBelow⟩))
set_option maxRecDepth 100000 in
theorem P6Pick_any (bs : List Int) (A : Option Addr) (cap : Nat) (n : Int) (w : World) (hS : SlA [] w 1 A (byC bs)) (hb : ∀ b ∈ bs, 0 ≤ b ∧ b ≤ 255) (hn : bs.length ≤ 1048576) :
    Calls Try.prog 64 #[.slice A bs.length cap, .int .i64 n] w fun e w' => e = .returned (.int .i64 (pkV bs n 0 0).1) ∧ Below w.heap.size w w' := by
  have hpk := fun w gs hS hg => pick_any bs A cap gs 0 0 n w hS hb hn (by omega) (by omega) hg
  generalize pkV bs n 0 0 = q at *
  refine enter2 Try.func64 rfl rfl rfl (Own.start w) ?_
  repeat' (first
    | (refine s_g ?_; first
      | (refine s_k 0 rfl ?_; refine s_val rfl rfl rfl (r_move rfl rfl) ?_)
      | (refine s_k 1 rfl ?_; refine s_val rfl rfl rfl (r_assign rfl rfl) ?_)
      | (refine s_k 35 rfl ?_; first | (refine s_from Try.func155 (by kernel_rfl) rfl rfl rfl rfl rfl rfl (fun w hL => from_any A bs.length cap w) fun gs => ?_) | (refine s_callM0 Try.func156 (by kernel_rfl) rfl rfl rfl rfl rfl rfl (fun w hL hg => hpk w gs (SlA.away hS hL m0 (by omega)) hg) fun cs5 hcs5 => ?_; subst hcs5))
      | refine s_nil ?_)
    | (refine c_g ?_; first | refine c_seq ?_ | refine c_region ?_ | (refine c_gc ?_; first | refine c_cond1 rfl zTr ?_ | refine c_cond0 rfl zTr ?_ | refine z_condd1 rfl ?_ | refine z_condd0 rfl ?_ | refine z_conddn1 rfl ?_ | refine z_conddn0 rfl ?_ | refine c_condd rfl (fun hc => ?_) (fun hc => ?_) | refine c_conddn rfl (fun hc => ?_) (fun hc => ?_) | refine c_condn rfl (fun hc => ?_) (fun hc => ?_) | refine c_cond rfl (fun hc => ?_) (fun hc => ?_)) | refine c_block ?_ | refine c_skip ?_ | refine c_exit ?_ | refine c_ret ?_)
    | (refine e_g ?_; first | refine e_then ?_ | refine e_blkn ?_ | refine e_thenx ?_ | refine e_thenr ?_ | refine e_blkr ?_ | refine e_blkx ?_ | refine e_blky rfl ?_)
    | (refine e_ret1 (by simp) rfl (re_tmp rfl) fun w hL => ⟨rfl, hL.toBelow⟩))
set_option maxRecDepth 100000 in
theorem P6Spot_any (bs : List Int) (A : Option Addr) (cap : Nat) (p : Nat → Int) (cs : Array Value) (w : World) (hp : Pv p cs) (hs : small p) (hS : SlA [] w 1 A (byC bs)) (hb : ∀ b ∈ bs, 0 ≤ b ∧ b ≤ 255) (hn : bs.length ≤ 1048576) :
    Calls Try.prog 59 #[.slice A bs.length cap, .agg cs] w fun e w' => ∃ c : Sp, isC (p 0) (p 1) c.x c.y = true ∧ e = .returned (.agg #[.int .i8 c.x, .int .i8 c.y]) ∧ Below w.heap.size w w' := by
  have hsz := hp.size
  have g0 := hp.g0
  have g1 := hp.g1
  obtain ⟨hs1, hs2⟩ := hs
  have k1 := pkV_ok hb (p 0) 0 0 (by omega)
  have p1 := fun w gs hS hg => pick_any bs A cap gs 0 0 (p 0) w hS hb hn (by omega) (by omega) hg
  rcases hq1 : pkV bs (p 0) 0 0 with ⟨r1, at1, sd1⟩
  simp only [hq1] at k1 p1
  have k2 := pkV_ok hb (p 1) at1 sd1 (by omega)
  have p2 := fun w gs hS hg => pick_any bs A cap gs at1 sd1 (p 1) w hS hb hn (by omega) (by omega) hg
  rcases hq2 : pkV bs (p 1) at1 sd1 with ⟨r2, at2, sd2⟩
  simp only [hq2] at k2 p2
  have hw0 : IntKind.i64.wrap (p 0) = p 0 := wrap_in (by simp only [Wk.lo, Wk.hi]; omega)
  have hw1 : IntKind.i64.wrap (p 1) = p 1 := wrap_in (by simp only [Wk.lo, Wk.hi]; omega)
  have hw2 : IntKind.i8.wrap r1 = r1 := wrap_in (by simp only [Wk.lo, Wk.hi]; omega)
  have hw3 : IntKind.i8.wrap r2 = r2 := wrap_in (by simp only [Wk.lo, Wk.hi]; omega)
  have hic : isC (p 0) (p 1) r1 r2 = true := by unfold isC inB; simp; omega
  refine enter2 Try.func59 rfl rfl rfl (Own.start w) ?_
  repeat' (first
    | (refine s_g ?_; first
      | (refine s_k 0 rfl ?_; refine s_val rfl rfl rfl (r_move rfl rfl) ?_)
      | (refine s_k 23 rfl ?_; first | refine s_val rfl rfl rfl (r_field tb rfl rfl rfl) ?_ | refine s_val rfl rfl rfl (r_fieldS tb rfl rfl rfl) ?_)
      | (refine s_k 8 rfl ?_; first | (refine' s_val rfl rfl rfl (r_ldv rfl rfl ?qm ?qv) ?_; (case qm => (exact zMm)); (case qv => (first | exact ldvL tb rfl rfl | exact ldv1 tb rfl (by assumption) | exact ldv1 tb rfl (g0) | exact ldv1 tb rfl (g1) | exact zLd))) | (refine' s_val rfl rfl rfl (r_ldo rfl rfl ?qw (by simp) ?qv) ?_; (case qw => assumption); (case qv => (first | exact ldvL tb rfl rfl | exact ldv1 tb rfl (by assumption) | exact ldv1 tb rfl (g0) | exact ldv1 tb rfl (g1) | exact zLd))))
      | (refine s_k 1 rfl ?_; refine s_val rfl rfl rfl (r_assign rfl rfl) ?_)
      | (refine s_k 35 rfl ?_; first | (refine s_from Try.func155 (by kernel_rfl) rfl rfl rfl rfl rfl rfl (fun w hL => from_any A bs.length cap w) fun gs => ?_) | (refine s_callM0 Try.func156 (by kernel_rfl) rfl rfl rfl rfl rfl rfl (fun w hL hg => p1 w _ (SlA.away hS hL m0 (by omega)) hg) fun cs5 hcs5 => ?_; subst hcs5) | (refine s_callM0 Try.func156 (by kernel_rfl) rfl rfl rfl rfl rfl rfl (fun w hL hg => p2 w _ (SlA.away hS hL m0 (by omega)) hg) fun cs5 hcs5 => ?_; subst hcs5))
      | (refine s_k 15 rfl ?_; first | refine s_val rfl rfl rfl (r_conv tb rfl rfl rfl rfl hw0) ?_ | refine s_val rfl rfl rfl (r_conv tb rfl rfl rfl rfl hw1) ?_ | refine s_val rfl rfl rfl (r_conv tb rfl rfl rfl rfl hw2) ?_ | refine s_val rfl rfl rfl (r_conv tb rfl rfl rfl rfl hw3) ?_ | refine s_val rfl rfl rfl (r_conv tb rfl rfl rfl rfl (wrap_in (by simp only [lo, hi]; omega))) ?_)
      | (refine s_k 4 rfl ?_; first | refine s_boxA rfl rfl rfl rfl rfl fun blk => ?_ | refine s_box1 rfl rfl rfl rfl rfl rfl fun blk => ?_)
      | (refine s_k 9 rfl ?_; (first | refine s_st1 tb rfl rfl rfl rfl rfl rfl rfl rfl ?_ | refine s_stA tb rfl rfl rfl rfl (by first | rfl | assumption | (apply Pv.size; assumption)) rfl rfl ?_); (first | refine' st0 ?qs ?_ | refine' st1 ?qs ?_ | refine' st2 ?qs ?_ | refine' st3 ?qs ?_ | refine' st4 ?qs ?_ | refine' st5 ?qs ?_ | refine' st6 ?qs ?_ | refine' st7 ?qs ?_ | refine' st8 ?qs ?_ | refine' st9 ?qs ?_ | refine' st10 ?qs ?_ | refine' st11 ?qs ?_); (case qs => (first | exact set_whole (vs := #[.int .i8 r1, .int .i8 r2]) rfl (by simp [Value.oneCell']) | exact zSet)))
      | (refine s_k 3 rfl ?_; refine s_allocA (t := 88) rfl zImplSpot rfl rfl rfl fun blk => ?_)
      | (refine s_k 5 rfl ?_; refine s_val rfl rfl rfl (r_build rfl rfl (fun w => bSpot _ _ rfl rfl w)) ?_)
      | refine s_nil ?_)
    | (refine c_g ?_; first | refine c_seq ?_ | refine c_region ?_ | (refine c_gc ?_; first | refine c_cond1 rfl zTr ?_ | refine c_cond0 rfl zTr ?_ | refine z_condd1 rfl ?_ | refine z_condd0 rfl ?_ | refine z_conddn1 rfl ?_ | refine z_conddn0 rfl ?_ | refine c_condd rfl (fun hc => ?_) (fun hc => ?_) | refine c_conddn rfl (fun hc => ?_) (fun hc => ?_) | refine c_condn rfl (fun hc => ?_) (fun hc => ?_) | refine c_cond rfl (fun hc => ?_) (fun hc => ?_)) | refine c_block ?_ | refine c_skip ?_ | refine c_exit ?_ | refine c_ret ?_)
    | (refine e_g ?_; first | refine e_then ?_ | refine e_blkn ?_ | refine e_thenx ?_ | refine e_thenr ?_ | refine e_blkr ?_ | refine e_blkx ?_ | refine e_blky rfl ?_)
    | (refine e_ret1 (by simp) rfl (re_cell tb rfl m1 rfl rfl) fun w hL => ⟨⟨r1, r2⟩, hic, rfl, hL.toBelow⟩))
end Go.Proofs.Ytpifngdmlmfnhaa
