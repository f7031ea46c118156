import Derived.Test.YtdnndidihedndaaRRQf33
import Derived.Test.YtdnndidihedndaaRRQf34
import Derived.Test.YtdnndidihedndaaRRQf35
/- A bite of a goat: both functions. No condition. -/
namespace Go.Proofs.YtdnndidihedndaaRR
set_option linter.unusedVariables false
set_option linter.unusedSimpArgs false
open Go.RowKit Mem Wk
attribute [local irreducible] Calls Wk.S Wk.C Wk.E Wk.X Wk.T Wk.Y Wk.Z Wk.andV Wk.shrV Calm.wpLex CalmB.wpLex CalmE.wpLex bfsN
theorem zImplGoat0 : (Try.prog.info? 103).map (·.zero) = some (some (.agg #[.int .i8 0, .int .i8 0, .int .i8 0, .int .i8 0, .int .i16 0, .int .i16 0, .int .i8 0])) := by kernel_rfl
theorem ext_cells {cur : Array Value} {off : Nat} {g : Gt} (hfit : off + 7 ≤ cur.size) (hext : cur.extract off (off + 7) = gtA g) : ∀ j, j < 7 → cur[off + j]? = (gtA g)[j]? := fun j hj => by
  rw [← hext, Array.getElem?_extract, if_pos (by omega)]
theorem bit_no {cur : Array Value} {off : Nat} {g : Gt} (hfit : off + 7 ≤ cur.size) (hext : cur.extract off (off + 7) = gtA g) : splice cur off #[.int .i8 g.x, .int .i8 g.y] = cur :=
  splice_same (by simp; omega) fun j hj => by
    have h2 : j < 2 := by simpa using hj
    rw [ext_cells hfit hext j (by omega)]
    match j, h2 with
    | 0, _ => rfl
    | 1, _ => rfl
set_option maxRecDepth 100000 in
set_option maxHeartbeats 1600000 in
theorem bite_any (p : Nat → Int) (cs cur : Array Value) (T : TypeId) (gp gl off : Nat) (g : Gt) (h : Int) (w : World) (hp : Pv p cs) (hg : GtOn p g) (hne : gp ≠ gl) (hgp : w.heap[gp]? = some (.cells cs 34 (0, 0))) (hgl : w.heap[gl]? = some (.cells cur T (0, 0))) (hfit : off + 7 ≤ cur.size) (hext : cur.extract off (off + 7) = gtA g) :
    Calls Try.prog 185 #[.pointer (some ⟨gp, 0, none⟩), .pointer (some ⟨gl, off, none⟩), .int .i64 h] w fun e w' => e = .returned (.int .i64 (bitM p g h)) ∧ ∃ cs', Pv (bitP p g h) cs' ∧ Upd2 w w' gp 34 cs' gl T (splice cur off #[.int .i8 (bitG p g h).x, .int .i8 (bitG p g h).y]) := by
  have hsz := hp.size
  have hxe : cur.extract off (off + 7) = #[.int .i8 g.x, .int .i8 g.y, .int .i8 g.u, .int .i8 g.v, .int .i16 g.rope, .int .i16 g.eats, .int .i8 g.likes] := hext
  have hno := bit_no hfit hext
  have hch := fun w => choice_any p cs g w hp hg.ok hg.a hg.b hg.c
  have hr := choV_inR hg
  have hgc := gi_lt ⟨hr.1, hr.2.1⟩ hr.2.2
  have h16 := hp.i16 _ hgc.1 hgc.2
  by_cases h0 : 0 < h
  case neg =>
    have hB : btB p g h = false := by unfold btB; simp [h0]
    have e1 : bitM p g h = 0 := by unfold bitM; simp [hB]
    have e2 : bitP p g h = p := by unfold bitP; simp [hB]
    have e3 : bitG p g h = g := by unfold bitG; simp [hB]
    rw [e1, e2, e3, hno]
    refine enter3 Try.func185 rfl rfl rfl (Own.startAt2 w hne hgp hgl) ?_
    repeat' (first
      | (refine s_g ?_; first
      | (refine s_k 0 rfl ?_; refine s_val rfl rfl rfl (r_move rfl rfl) ?_)
      | (refine s_k 23 rfl ?_; first | refine s_val rfl rfl rfl (r_field tb rfl rfl rfl) ?_ | refine s_val rfl rfl rfl (r_fieldS tb rfl rfl rfl) ?_)
      | (refine s_k 8 rfl ?_; first | (refine' s_val rfl rfl rfl (r_ldv rfl rfl ?qm ?qv) ?_; (case qm => (exact zMm)); (case qv => (exact zLe))) | (refine' s_val rfl rfl rfl (r_ldo rfl rfl ?qw (by simp) ?qv) ?_; (case qw => assumption); (case qv => (exact zLe))))
      | (refine s_k 1 rfl ?_; refine s_val rfl rfl rfl (r_assign rfl rfl) ?_)
      | (refine s_k 13 rfl ?_; first | refine s_val rfl rfl rfl (r_sub rfl rfl rfl (wrap_in (by simp only [lo, hi]; omega))) ?_ | refine s_val rfl rfl rfl (r_leq rfl rfl rfl) ?_)
      | (refine s_k 15 rfl ?_; refine s_val rfl rfl rfl (r_conv tb rfl rfl rfl rfl (wrap_in (by simp only [lo, hi]; omega))) ?_)
      | (refine s_k 14 rfl ?_; refine s_val rfl rfl rfl (r_not rfl rfl) ?_)
      | (refine s_k 25 rfl ?_; first | refine s_val rfl rfl rfl (r_ixN tb rfl rfl rfl rfl (by omega)) ?_ | refine s_val rfl rfl rfl (r_ixA tb rfl rfl rfl rfl (by omega) (by omega)) ?_ | refine s_val rfl rfl rfl (r_ixO tb rfl rfl rfl rfl (by omega)) ?_)
      | (refine s_k 9 rfl ?_; (first | refine s_st1 tb rfl rfl rfl rfl rfl rfl rfl rfl ?_ | refine s_stA tb rfl rfl rfl rfl (by first | rfl | assumption | (apply Pv.size; assumption)) rfl rfl ?_); (first | refine' st0 ?qs ?_ | refine' st1 ?qs ?_ | refine' st2 ?qs ?_ | refine' st3 ?qs ?_ | refine' st4 ?qs ?_ | refine' st5 ?qs ?_ | refine' st6 ?qs ?_ | refine' st7 ?qs ?_ | refine' st8 ?qs ?_ | refine' st9 ?qs ?_ | refine' st10 ?qs ?_ | refine' st11 ?qs ?_); (case qs => (first | exact zSet)))
      | (refine s_k 36 rfl ?_; first | refine s_val rfl rfl rfl (r_min rfl rfl rfl) ?_ | refine s_val rfl rfl rfl (r_min3 rfl rfl rfl rfl) ?_)
      | (refine s_k 34 rfl ?_; refine s_val rfl rfl rfl (r_extractL rfl rfl rfl) ?_)
      | (refine s_k 12 rfl ?_; refine s_val rfl rfl rfl (r_nil rfl rfl) ?_)
      | refine s_nil ?_)
      | (refine c_g ?_; first | refine c_seq ?_ | refine c_region ?_ | (refine c_gc ?_; first | refine c_cond1 rfl zTr ?_ | refine c_cond0 rfl zTr ?_ | refine z_condd1 rfl ?_ | refine z_condd0 rfl ?_ | refine z_conddn1 rfl ?_ | refine z_conddn0 rfl ?_ | refine c_condd rfl (fun hc => ?_) (fun hc => ?_) | refine c_conddn rfl (fun hc => ?_) (fun hc => ?_) | refine c_condn rfl (fun hc => ?_) (fun hc => ?_) | refine c_cond rfl (fun hc => ?_) (fun hc => ?_)) | refine c_block ?_ | refine c_skip ?_ | refine c_exit ?_ | refine c_ret ?_)
      | (refine e_g ?_; first | refine e_then ?_ | refine e_blkn ?_ | refine e_thenx ?_ | refine e_thenr ?_ | refine e_blkr ?_ | refine e_blkx ?_ | refine e_blky rfl ?_)
      | (refine e_ret1 (by simp) rfl (re_tmp rfl) fun w hL => ⟨rfl, cs, hp, Upd2.of hL m0 m1⟩))
  case pos =>
    cases hv : (choV p g).2
    case false =>
      have hB : btB p g h = false := by unfold btB; simp [hv]
      have e1 : bitM p g h = 0 := by unfold bitM; simp [hB]
      have e2 : bitP p g h = p := by unfold bitP; simp [hB]
      have e3 : bitG p g h = g := by unfold bitG; simp [hB]
      rw [e1, e2, e3, hno]
      refine enter3 Try.func185 rfl rfl rfl (Own.startAt2 w hne hgp hgl) ?_
      repeat' (first
        | (refine s_g ?_; first
      | (refine s_k 0 rfl ?_; refine s_val rfl rfl rfl (r_move rfl rfl) ?_)
      | (refine s_k 23 rfl ?_; first | refine s_val rfl rfl rfl (r_field tb rfl rfl rfl) ?_ | refine s_val rfl rfl rfl (r_fieldS tb rfl rfl rfl) ?_)
      | (refine s_k 8 rfl ?_; first | refine s_val rfl rfl rfl (r_ldN tb rfl rfl m1 rfl hfit hxe) ?_ | (refine' s_val rfl rfl rfl (r_ldv rfl rfl ?qm ?qv) ?_; (case qm => (exact zMm)); (case qv => (exact zLe))) | (refine' s_val rfl rfl rfl (r_ldo rfl rfl ?qw (by simp) ?qv) ?_; (case qw => assumption); (case qv => (exact zLe))))
      | (refine s_k 1 rfl ?_; refine s_val rfl rfl rfl (r_assign rfl rfl) ?_)
      | (refine s_k 13 rfl ?_; first | refine s_val rfl rfl rfl (r_sub rfl rfl rfl (wrap_in (by simp only [lo, hi]; omega))) ?_ | refine s_val rfl rfl rfl (r_leq rfl rfl rfl) ?_)
      | (refine s_k 35 rfl ?_; (refine s_call Try.func240 (by kernel_rfl) rfl rfl rfl rfl rfl rfl (fun w hL => (by have q := hch w; rw [hv] at q; exact q)) ?_))
      | (refine s_k 15 rfl ?_; refine s_val rfl rfl rfl (r_conv tb rfl rfl rfl rfl (wrap_in (by simp only [lo, hi]; omega))) ?_)
      | (refine s_k 14 rfl ?_; refine s_val rfl rfl rfl (r_not rfl rfl) ?_)
      | (refine s_k 25 rfl ?_; first | refine s_val rfl rfl rfl (r_ixN tb rfl rfl rfl rfl (by omega)) ?_ | refine s_val rfl rfl rfl (r_ixA tb rfl rfl rfl rfl (by omega) (by omega)) ?_ | refine s_val rfl rfl rfl (r_ixO tb rfl rfl rfl rfl (by omega)) ?_)
      | (refine s_k 9 rfl ?_; (first | refine s_st1 tb rfl rfl rfl rfl rfl rfl rfl rfl ?_ | refine s_stA tb rfl rfl rfl rfl (by first | rfl | assumption | (apply Pv.size; assumption)) rfl rfl ?_); (first | refine' st0 ?qs ?_ | refine' st1 ?qs ?_ | refine' st2 ?qs ?_ | refine' st3 ?qs ?_ | refine' st4 ?qs ?_ | refine' st5 ?qs ?_ | refine' st6 ?qs ?_ | refine' st7 ?qs ?_ | refine' st8 ?qs ?_ | refine' st9 ?qs ?_ | refine' st10 ?qs ?_ | refine' st11 ?qs ?_); (case qs => (first | exact set_whole (vs := #[.int .i8 (choV p g).1.x, .int .i8 (choV p g).1.y]) rfl (by simp [Value.oneCell']) | exact zSet)))
      | (refine s_k 3 rfl ?_; refine s_allocA (t := 49) rfl zImplSpot rfl rfl rfl fun blk => ?_)
      | (refine s_k 36 rfl ?_; first | refine s_val rfl rfl rfl (r_min rfl rfl rfl) ?_ | refine s_val rfl rfl rfl (r_min3 rfl rfl rfl rfl) ?_)
      | (refine s_k 34 rfl ?_; refine s_val rfl rfl rfl (r_extractL rfl rfl rfl) ?_)
      | (refine s_k 12 rfl ?_; refine s_val rfl rfl rfl (r_nil rfl rfl) ?_)
      | refine s_nil ?_)
        | (refine c_g ?_; first | refine c_seq ?_ | refine c_region ?_ | (refine c_gc ?_; first | refine c_cond1 rfl zTr ?_ | refine c_cond0 rfl zTr ?_ | refine z_condd1 rfl ?_ | refine z_condd0 rfl ?_ | refine z_conddn1 rfl ?_ | refine z_conddn0 rfl ?_ | refine c_condd rfl (fun hc => ?_) (fun hc => ?_) | refine c_conddn rfl (fun hc => ?_) (fun hc => ?_) | refine c_condn rfl (fun hc => ?_) (fun hc => ?_) | refine c_cond rfl (fun hc => ?_) (fun hc => ?_)) | refine c_block ?_ | refine c_skip ?_ | refine c_exit ?_ | refine c_ret ?_)
        | (refine e_g ?_; first | refine e_then ?_ | refine e_blkn ?_ | refine e_thenx ?_ | refine e_thenr ?_ | refine e_blkr ?_ | refine e_blkx ?_ | refine e_blky rfl ?_)
        | (refine x_g ?_; first
      | (refine x_k 0 rfl ?_; (refine x_val rfl rfl rfl (r_move rfl rfl) ?hp ?_; (case hp => exact rfl)))
      | (refine x_k 23 rfl ?_; first | (refine x_val rfl rfl rfl (r_field tb rfl rfl rfl) ?hp ?_; (case hp => exact rfl)) | (refine x_val rfl rfl rfl (r_fieldS tb rfl rfl rfl) ?hp ?_; (case hp => exact rfl)))
      | (refine x_k 8 rfl ?_; first | (refine x_val rfl rfl rfl (r_ldN tb rfl rfl m1 rfl hfit hxe) ?hp ?_; (case hp => exact rfl)) | (refine' x_val rfl rfl rfl (r_ldv rfl rfl ?qm ?qv) ?hp ?_; (case qm => (exact zMm)); (case qv => (exact zLe)); (case hp => exact rfl)) | (refine' x_val rfl rfl rfl (r_ldo rfl rfl ?qw (by simp) ?qv) ?hp ?_; (case qw => assumption); (case qv => (exact zLe)); (case hp => exact rfl)))
      | (refine x_k 1 rfl ?_; (refine x_val rfl rfl rfl (r_assign rfl rfl) ?hp ?_; (case hp => exact rfl)))
      | (refine x_k 13 rfl ?_; first | (refine x_val rfl rfl rfl (r_sub rfl rfl rfl (wrap_in (by simp only [lo, hi]; omega))) ?hp ?_; (case hp => exact rfl)) | (refine x_val rfl rfl rfl (r_leq rfl rfl rfl) ?hp ?_; (case hp => exact rfl)))
      | (refine x_k 35 rfl ?_; (refine x_call Try.func240 (by kernel_rfl) rfl rfl rfl rfl rfl rfl (fun w hL => (by have q := hch w; rw [hv] at q; exact q)) ?hp ?_; (case hp => exact rfl)))
      | (refine x_k 15 rfl ?_; (refine x_val rfl rfl rfl (r_conv tb rfl rfl rfl rfl (wrap_in (by simp only [lo, hi]; omega))) ?hp ?_; (case hp => exact rfl)))
      | (refine x_k 14 rfl ?_; (refine x_val rfl rfl rfl (r_not rfl rfl) ?hp ?_; (case hp => exact rfl)))
      | (refine x_k 25 rfl ?_; first | (refine x_val rfl rfl rfl (r_ixN tb rfl rfl rfl rfl (by omega)) ?hp ?_; (case hp => exact rfl)) | (refine x_val rfl rfl rfl (r_ixA tb rfl rfl rfl rfl (by omega) (by omega)) ?hp ?_; (case hp => exact rfl)) | (refine x_val rfl rfl rfl (r_ixO tb rfl rfl rfl rfl (by omega)) ?hp ?_; (case hp => exact rfl)))
      | (refine x_k 9 rfl ?_; first | (refine' x_putA0 tb rfl rfl rfl rfl (by first | rfl | assumption | (apply Pv.size; assumption)) ?qs (by first | rfl | assumption | (apply Pv.size; assumption)) rfl rfl ?hp ?_; (case qs => (first | exact set_whole (vs := #[.int .i8 (choV p g).1.x, .int .i8 (choV p g).1.y]) rfl (by simp [Value.oneCell']) | exact zSet)); (case hp => exact rfl)) | (refine' x_putA1 tb rfl rfl rfl rfl (by first | rfl | assumption | (apply Pv.size; assumption)) ?qs (by first | rfl | assumption | (apply Pv.size; assumption)) rfl rfl ?hp ?_; (case qs => (first | exact set_whole (vs := #[.int .i8 (choV p g).1.x, .int .i8 (choV p g).1.y]) rfl (by simp [Value.oneCell']) | exact zSet)); (case hp => exact rfl)) | (refine' x_putA2 tb rfl rfl rfl rfl (by first | rfl | assumption | (apply Pv.size; assumption)) ?qs (by first | rfl | assumption | (apply Pv.size; assumption)) rfl rfl ?hp ?_; (case qs => (first | exact set_whole (vs := #[.int .i8 (choV p g).1.x, .int .i8 (choV p g).1.y]) rfl (by simp [Value.oneCell']) | exact zSet)); (case hp => exact rfl)))
      | (refine x_k 3 rfl ?_; (refine x_allocA (t := 49) rfl zImplSpot rfl rfl rfl ?hp (fun blk => ?_); (case hp => exact rfl)))
      | (refine x_k 36 rfl ?_; first | (refine x_val rfl rfl rfl (r_min rfl rfl rfl) ?hp ?_; (case hp => exact rfl)) | (refine x_val rfl rfl rfl (r_min3 rfl rfl rfl rfl) ?hp ?_; (case hp => exact rfl)))
      | (refine x_k 34 rfl ?_; (refine x_val rfl rfl rfl (r_extractL rfl rfl rfl) ?hp ?_; (case hp => exact rfl)))
      | (refine x_k 12 rfl ?_; (refine x_val rfl rfl rfl (r_nil rfl rfl) ?hp ?_; (case hp => exact rfl)))
      | refine x_nil0 ?_
      | refine x_nil ?_)
        | (refine' c_drawX (id := 3) [(Sum.inl _ : Calm.Plan), (Sum.inl _ : Calm.Plan), (Sum.inl _ : Calm.Plan), (Sum.inl _ : Calm.Plan), (Sum.inl _ : Calm.Plan), (Sum.inl _ : Calm.Plan), (Sum.inl _ : Calm.Plan), (Sum.inl _ : Calm.Plan), (Sum.inl _ : Calm.Plan), (Sum.inl _ : Calm.Plan), (Sum.inr (false, _, _) : Calm.Plan), (Sum.inr (true, _, _) : Calm.Plan), (Sum.inl _ : Calm.Plan)] (by kernel_rfl) (by kernel_rfl) (by kernel_rfl) ?_)
        | (refine e_ret1 (by simp) rfl (re_tmp rfl) fun w hL => ⟨rfl, cs, hp, Upd2.of hL m1 m2⟩))
    case true =>
      have hB : btB p g h = true := by unfold btB; simp [hv, h0]
      have e1 : bitM p g h = min (min h 5) (p (gi (choV p g).1.x (choV p g).1.y)) := by unfold bitM; simp [hB]
      have e2 : bitP p g h = upd p (gi (choV p g).1.x (choV p g).1.y) (p (gi (choV p g).1.x (choV p g).1.y) - bitM p g h) := by unfold bitP; simp [hB]
      have e3 : bitG p g h = ⟨(choV p g).1.x, (choV p g).1.y, g.u, g.v, g.rope, g.eats, g.likes⟩ := by unfold bitG; simp [hB]
      rw [e2, e3, e1]
      simp only
      simp only [hv] at hch
      generalize (choV p g).1 = c at *
      have hgr := hp.grassA ⟨hr.1, hr.2.1⟩ hr.2.2
      have hgrass := fun w => grass_any p cs c.x c.y w hp ⟨hr.1, hr.2.1⟩ hr.2.2
      have hset := fun v h3 => hp.setGrassA (v := v) ⟨hr.1, hr.2.1⟩ hr.2.2 h3
      obtain ⟨hx0, hx1, hy0, hy1⟩ := hr
      generalize hq : p (gi c.x c.y) = q at *
      have hfit2 : 0 + 2 + c.y.toNat * 10 + c.x.toNat * 1 < cs.size := by rw [hsz]; omega
      refine enter3 Try.func185 rfl rfl rfl (Own.startAt2 w hne hgp hgl) ?_
      repeat' (first
        | (refine s_g ?_; first
      | (refine s_k 0 rfl ?_; refine s_val rfl rfl rfl (r_move rfl rfl) ?_)
      | (refine s_k 23 rfl ?_; first | refine s_val rfl rfl rfl (r_field tb rfl rfl rfl) ?_ | refine s_val rfl rfl rfl (r_fieldS tb rfl rfl rfl) ?_)
      | (refine s_k 8 rfl ?_; first | refine s_val rfl rfl rfl (r_ldN tb rfl rfl m1 rfl hfit hxe) ?_ | (refine' s_val rfl rfl rfl (r_ldv rfl rfl ?qm ?qv) ?_; (case qm => (exact zMm)); (case qv => (first | exact ldvL tb rfl rfl | exact ldv1 tb rfl (by assumption) | exact ldv1 tb rfl (hgr) | exact zLd))) | (refine' s_val rfl rfl rfl (r_ldo rfl rfl ?qw (by simp) ?qv) ?_; (case qw => assumption); (case qv => (first | exact ldvL tb rfl rfl | exact ldv1 tb rfl (by assumption) | exact ldv1 tb rfl (hgr) | exact zLd))))
      | (refine s_k 1 rfl ?_; refine s_val rfl rfl rfl (r_assign rfl rfl) ?_)
      | (refine s_k 13 rfl ?_; first | refine s_val rfl rfl rfl (r_sub rfl rfl rfl (wrap_in (by simp only [lo, hi]; omega))) ?_ | refine s_val rfl rfl rfl (r_leq rfl rfl rfl) ?_)
      | (refine s_k 35 rfl ?_; first | (refine s_call Try.func240 (by kernel_rfl) rfl rfl rfl rfl rfl rfl (fun w hL => hch w) ?_) | (refine s_call Try.func241 (by kernel_rfl) rfl rfl rfl rfl rfl rfl (fun w hL => hgrass w) ?_))
      | (refine s_k 15 rfl ?_; refine s_val rfl rfl rfl (r_conv tb rfl rfl rfl rfl (wrap_in (by simp only [lo, hi]; omega))) ?_)
      | (refine s_k 14 rfl ?_; refine s_val rfl rfl rfl (r_not rfl rfl) ?_)
      | (refine s_k 25 rfl ?_; first | refine s_val rfl rfl rfl (r_ixN tb rfl rfl rfl rfl (by omega)) ?_ | refine s_val rfl rfl rfl (r_ixA tb rfl rfl rfl rfl (by omega) (by omega)) ?_ | refine s_val rfl rfl rfl (r_ixO tb rfl rfl rfl rfl (by omega)) ?_)
      | (refine s_k 9 rfl ?_; (first | refine s_st1 tb rfl rfl rfl rfl rfl rfl rfl rfl ?_ | refine s_stA tb rfl rfl rfl rfl (by first | rfl | assumption | (apply Pv.size; assumption)) rfl rfl ?_); (first | refine' st0 ?qs ?_ | refine' st1 ?qs ?_ | refine' st2 ?qs ?_ | refine' st3 ?qs ?_ | refine' st4 ?qs ?_ | refine' st5 ?qs ?_ | refine' st6 ?qs ?_ | refine' st7 ?qs ?_ | refine' st8 ?qs ?_ | refine' st9 ?qs ?_ | refine' st10 ?qs ?_ | refine' st11 ?qs ?_); (case qs => (first | exact set_whole (vs := #[.int .i8 c.x, .int .i8 c.y]) rfl (by simp [Value.oneCell']) | exact set_any (vs := #[.int .i8 c.x, .int .i8 c.y]) (by simp; omega) (by simp [Value.oneCell']) | exact set_one hfit2 rfl | exact zSet)))
      | (refine s_k 3 rfl ?_; refine s_allocA (t := 49) rfl zImplSpot rfl rfl rfl fun blk => ?_)
      | (refine s_k 36 rfl ?_; first | refine s_val rfl rfl rfl (r_min rfl rfl rfl) ?_ | refine s_val rfl rfl rfl (r_min3 rfl rfl rfl rfl) ?_)
      | (refine s_k 34 rfl ?_; refine s_val rfl rfl rfl (r_extractL rfl rfl rfl) ?_)
      | (refine s_k 12 rfl ?_; refine s_val rfl rfl rfl (r_nil rfl rfl) ?_)
      | refine s_nil ?_)
        | (refine c_g ?_; first | refine c_seq ?_ | refine c_region ?_ | (refine c_gc ?_; first | refine c_cond1 rfl zTr ?_ | refine c_cond0 rfl zTr ?_ | refine z_condd1 rfl ?_ | refine z_condd0 rfl ?_ | refine z_conddn1 rfl ?_ | refine z_conddn0 rfl ?_ | refine c_condd rfl (fun hc => ?_) (fun hc => ?_) | refine c_conddn rfl (fun hc => ?_) (fun hc => ?_) | refine c_condn rfl (fun hc => ?_) (fun hc => ?_) | refine c_cond rfl (fun hc => ?_) (fun hc => ?_)) | refine c_block ?_ | refine c_skip ?_ | refine c_exit ?_ | refine c_ret ?_)
        | (refine e_g ?_; first | refine e_then ?_ | refine e_blkn ?_ | refine e_thenx ?_ | refine e_thenr ?_ | refine e_blkr ?_ | refine e_blkx ?_ | refine e_blky rfl ?_)
        | (refine x_g ?_; first
      | (refine x_k 0 rfl ?_; (refine x_val rfl rfl rfl (r_move rfl rfl) ?hp ?_; (case hp => exact rfl)))
      | (refine x_k 23 rfl ?_; first | (refine x_val rfl rfl rfl (r_field tb rfl rfl rfl) ?hp ?_; (case hp => exact rfl)) | (refine x_val rfl rfl rfl (r_fieldS tb rfl rfl rfl) ?hp ?_; (case hp => exact rfl)))
      | (refine x_k 8 rfl ?_; first | (refine x_val rfl rfl rfl (r_ldN tb rfl rfl m1 rfl hfit hxe) ?hp ?_; (case hp => exact rfl)) | (refine' x_val rfl rfl rfl (r_ldv rfl rfl ?qm ?qv) ?hp ?_; (case qm => (exact zMm)); (case qv => (first | exact ldvL tb rfl rfl | exact ldv1 tb rfl (by assumption) | exact ldv1 tb rfl (hgr) | exact zLd)); (case hp => exact rfl)) | (refine' x_val rfl rfl rfl (r_ldo rfl rfl ?qw (by simp) ?qv) ?hp ?_; (case qw => assumption); (case qv => (first | exact ldvL tb rfl rfl | exact ldv1 tb rfl (by assumption) | exact ldv1 tb rfl (hgr) | exact zLd)); (case hp => exact rfl)))
      | (refine x_k 1 rfl ?_; (refine x_val rfl rfl rfl (r_assign rfl rfl) ?hp ?_; (case hp => exact rfl)))
      | (refine x_k 13 rfl ?_; first | (refine x_val rfl rfl rfl (r_sub rfl rfl rfl (wrap_in (by simp only [lo, hi]; omega))) ?hp ?_; (case hp => exact rfl)) | (refine x_val rfl rfl rfl (r_leq rfl rfl rfl) ?hp ?_; (case hp => exact rfl)))
      | (refine x_k 35 rfl ?_; first | (refine x_call Try.func240 (by kernel_rfl) rfl rfl rfl rfl rfl rfl (fun w hL => hch w) ?hp ?_; (case hp => exact rfl)) | (refine x_call Try.func241 (by kernel_rfl) rfl rfl rfl rfl rfl rfl (fun w hL => hgrass w) ?hp ?_; (case hp => exact rfl)))
      | (refine x_k 15 rfl ?_; (refine x_val rfl rfl rfl (r_conv tb rfl rfl rfl rfl (wrap_in (by simp only [lo, hi]; omega))) ?hp ?_; (case hp => exact rfl)))
      | (refine x_k 14 rfl ?_; (refine x_val rfl rfl rfl (r_not rfl rfl) ?hp ?_; (case hp => exact rfl)))
      | (refine x_k 25 rfl ?_; first | (refine x_val rfl rfl rfl (r_ixN tb rfl rfl rfl rfl (by omega)) ?hp ?_; (case hp => exact rfl)) | (refine x_val rfl rfl rfl (r_ixA tb rfl rfl rfl rfl (by omega) (by omega)) ?hp ?_; (case hp => exact rfl)) | (refine x_val rfl rfl rfl (r_ixO tb rfl rfl rfl rfl (by omega)) ?hp ?_; (case hp => exact rfl)))
      | (refine x_k 9 rfl ?_; first | (refine' x_putA0 tb rfl rfl rfl rfl (by first | rfl | assumption | (apply Pv.size; assumption)) ?qs (by first | rfl | assumption | (apply Pv.size; assumption)) rfl rfl ?hp ?_; (case qs => (first | exact set_whole (vs := #[.int .i8 c.x, .int .i8 c.y]) rfl (by simp [Value.oneCell']) | exact set_any (vs := #[.int .i8 c.x, .int .i8 c.y]) (by simp; omega) (by simp [Value.oneCell']) | exact set_one hfit2 rfl | exact zSet)); (case hp => exact rfl)) | (refine' x_putA1 tb rfl rfl rfl rfl (by first | rfl | assumption | (apply Pv.size; assumption)) ?qs (by first | rfl | assumption | (apply Pv.size; assumption)) rfl rfl ?hp ?_; (case qs => (first | exact set_whole (vs := #[.int .i8 c.x, .int .i8 c.y]) rfl (by simp [Value.oneCell']) | exact set_any (vs := #[.int .i8 c.x, .int .i8 c.y]) (by simp; omega) (by simp [Value.oneCell']) | exact set_one hfit2 rfl | exact zSet)); (case hp => exact rfl)) | (refine' x_putA2 tb rfl rfl rfl rfl (by first | rfl | assumption | (apply Pv.size; assumption)) ?qs (by first | rfl | assumption | (apply Pv.size; assumption)) rfl rfl ?hp ?_; (case qs => (first | exact set_whole (vs := #[.int .i8 c.x, .int .i8 c.y]) rfl (by simp [Value.oneCell']) | exact set_any (vs := #[.int .i8 c.x, .int .i8 c.y]) (by simp; omega) (by simp [Value.oneCell']) | exact set_one hfit2 rfl | exact zSet)); (case hp => exact rfl)))
      | (refine x_k 3 rfl ?_; (refine x_allocA (t := 49) rfl zImplSpot rfl rfl rfl ?hp (fun blk => ?_); (case hp => exact rfl)))
      | (refine x_k 36 rfl ?_; first | (refine x_val rfl rfl rfl (r_min rfl rfl rfl) ?hp ?_; (case hp => exact rfl)) | (refine x_val rfl rfl rfl (r_min3 rfl rfl rfl rfl) ?hp ?_; (case hp => exact rfl)))
      | (refine x_k 34 rfl ?_; (refine x_val rfl rfl rfl (r_extractL rfl rfl rfl) ?hp ?_; (case hp => exact rfl)))
      | (refine x_k 12 rfl ?_; (refine x_val rfl rfl rfl (r_nil rfl rfl) ?hp ?_; (case hp => exact rfl)))
      | refine x_nil0 ?_
      | refine x_nil ?_)
        | (refine' c_drawX (id := 3) [(Sum.inl _ : Calm.Plan), (Sum.inl _ : Calm.Plan), (Sum.inl _ : Calm.Plan), (Sum.inl _ : Calm.Plan), (Sum.inl _ : Calm.Plan), (Sum.inl _ : Calm.Plan), (Sum.inl _ : Calm.Plan), (Sum.inl _ : Calm.Plan), (Sum.inl _ : Calm.Plan), (Sum.inl _ : Calm.Plan), (Sum.inr (false, _, _) : Calm.Plan), (Sum.inr (true, _, _) : Calm.Plan), (Sum.inl _ : Calm.Plan)] (by kernel_rfl) (by kernel_rfl) (by kernel_rfl) ?_)
        | (refine' c_drawX (id := 7) [(Sum.inl _ : Calm.Plan), (Sum.inl _ : Calm.Plan), (Sum.inl _ : Calm.Plan), (Sum.inl _ : Calm.Plan), (Sum.inl _ : Calm.Plan), (Sum.inl _ : Calm.Plan), (Sum.inl _ : Calm.Plan), (Sum.inl _ : Calm.Plan)] (by kernel_rfl) (by kernel_rfl) (by kernel_rfl) ?_)
        | (refine' c_drawXT (id := 8) 17 [(Sum.inl _ : Calm.Plan), (Sum.inl _ : Calm.Plan), (Sum.inl _ : Calm.Plan), (Sum.inl _ : Calm.Plan), (Sum.inl _ : Calm.Plan), (Sum.inl _ : Calm.Plan), (Sum.inl _ : Calm.Plan), (Sum.inl _ : Calm.Plan), (Sum.inl _ : Calm.Plan), (Sum.inl _ : Calm.Plan), (Sum.inl _ : Calm.Plan), (Sum.inl _ : Calm.Plan), (Sum.inl _ : Calm.Plan), (Sum.inl _ : Calm.Plan), (Sum.inl _ : Calm.Plan), (Sum.inl _ : Calm.Plan), (Sum.inl _ : Calm.Plan)] (by kernel_rfl) (by kernel_rfl) (by kernel_rfl) ?_)
        | refine e_tail ?_
        | (refine e_ret1 (by simp) rfl (re_tmp rfl) fun w hL => ⟨rfl, _, hset _ (by omega), Upd2.of hL m1 m2⟩))
theorem l00Min_lit (a b : Int) (w : World) : Calls Try.prog 109 #[.int .i64 a, .int .i64 b] w fun e w' => e = .returned (.int .i64 (min a b)) ∧ Below w.heap.size w w' := by
  by_cases hab : a < b
  · have e : min a b = a := by omega
    rw [e]
    refine enter2 Try.func109 rfl rfl rfl (Own.start w) ?_
    repeat' (first
      | (refine s_g ?_; first
      | (refine s_k 0 rfl ?_; refine s_val rfl rfl rfl (r_move rfl rfl) ?_)
      | (refine s_k 1 rfl ?_; refine s_val rfl rfl rfl (r_assign rfl rfl) ?_)
      | (refine s_k 13 rfl ?_; refine s_val rfl rfl rfl (r_lss rfl rfl rfl) ?_)
      | refine s_nil ?_)
      | (refine c_g ?_; first | refine c_seq ?_ | refine c_region ?_ | (refine c_gc ?_; first | refine c_cond1 rfl zTr ?_ | refine c_cond0 rfl zTr ?_ | refine z_condd1 rfl ?_ | refine z_condd0 rfl ?_ | refine z_conddn1 rfl ?_ | refine z_conddn0 rfl ?_ | refine c_condd rfl (fun hc => ?_) (fun hc => ?_) | refine c_conddn rfl (fun hc => ?_) (fun hc => ?_) | refine c_condn rfl (fun hc => ?_) (fun hc => ?_) | refine c_cond rfl (fun hc => ?_) (fun hc => ?_)) | refine c_block ?_ | refine c_skip ?_ | refine c_exit ?_ | refine c_ret ?_)
      | (refine e_g ?_; first | refine e_then ?_ | refine e_blkn ?_ | refine e_thenx ?_ | refine e_thenr ?_ | refine e_blkr ?_ | refine e_blkx ?_ | refine e_blky rfl ?_)
      | (refine e_ret1 (by simp) rfl (re_tmp rfl) fun w hL => ⟨rfl, hL.toBelow⟩))
  · have e : min a b = b := by omega
    rw [e]
    refine enter2 Try.func109 rfl rfl rfl (Own.start w) ?_
    repeat' (first
      | (refine s_g ?_; first
      | (refine s_k 0 rfl ?_; refine s_val rfl rfl rfl (r_move rfl rfl) ?_)
      | (refine s_k 1 rfl ?_; refine s_val rfl rfl rfl (r_assign rfl rfl) ?_)
      | (refine s_k 13 rfl ?_; refine s_val rfl rfl rfl (r_lss rfl rfl rfl) ?_)
      | refine s_nil ?_)
      | (refine c_g ?_; first | refine c_seq ?_ | refine c_region ?_ | (refine c_gc ?_; first | refine c_cond1 rfl zTr ?_ | refine c_cond0 rfl zTr ?_ | refine z_condd1 rfl ?_ | refine z_condd0 rfl ?_ | refine z_conddn1 rfl ?_ | refine z_conddn0 rfl ?_ | refine c_condd rfl (fun hc => ?_) (fun hc => ?_) | refine c_conddn rfl (fun hc => ?_) (fun hc => ?_) | refine c_condn rfl (fun hc => ?_) (fun hc => ?_) | refine c_cond rfl (fun hc => ?_) (fun hc => ?_)) | refine c_block ?_ | refine c_skip ?_ | refine c_exit ?_ | refine c_ret ?_)
      | (refine e_g ?_; first | refine e_then ?_ | refine e_blkn ?_ | refine e_thenx ?_ | refine e_thenr ?_ | refine e_blkr ?_ | refine e_blkx ?_ | refine e_blky rfl ?_)
      | (refine e_ret1 (by simp) rfl (re_tmp rfl) fun w hL => ⟨rfl, hL.toBelow⟩))
set_option maxRecDepth 100000 in
set_option maxHeartbeats 1600000 in
theorem l02Bite_any (p : Nat → Int) (cs c' : Array Value) (g : Gt) (h : Int) (w : World) (hp : Pv p cs) (hg : GtOn p g) (h0 : 0 ≤ h) (hc' : Pv (bitP p g h) c') :
    Calls Try.prog 183 #[.agg cs, .agg #[.int .i8 g.x, .int .i8 g.y, .int .i8 g.u, .int .i8 g.v, .int .i16 g.rope, .int .i16 g.eats, .int .i8 g.likes], .int .i64 h] w fun e w' => e = .returned (.tuple #[.agg c', .agg #[.int .i8 (bitG p g h).x, .int .i8 (bitG p g h).y, .int .i8 (bitG p g h).u, .int .i8 (bitG p g h).v, .int .i16 (bitG p g h).rope, .int .i16 (bitG p g h).eats, .int .i8 (bitG p g h).likes], .int .i64 (bitM p g h)]) ∧ Below w.heap.size w w' := by
  have hsz := hp.size
  have hch := fun (w : World) gp gg (hgp : w.heap[gp]? = some (.cells cs 34 (0, 0))) hgg => l02Choice_any p cs 34 103 gp gg g w hp hgp hgg hg.ok hg.rope hg.a hg.b hg.c
  have hr := choV_inR hg
  have hgc := gi_lt ⟨hr.1, hr.2.1⟩ hr.2.2
  have h16 := hp.i16 _ hgc.1 hgc.2
  by_cases hB : btB p g h = true
  case neg =>
    have hB' : btB p g h = false := by simpa using hB
    have e1 : bitM p g h = 0 := by unfold bitM; simp [hB']
    have e2 : bitP p g h = p := by unfold bitP; simp [hB']
    have e3 : bitG p g h = g := by unfold bitG; simp [hB']
    rw [e2] at hc'
    have e4 := hc'.uniq hp
    subst e4
    rw [e1, e3]
    cases hv : (choV p g).2
    case' true => have hh : h = 0 := by unfold btB at hB'; simp [hv] at hB'; omega
    all_goals
      simp only [hv] at hch
      refine enter3 Try.func183 rfl rfl rfl (Own.start w) ?_
      repeat' (first
        | (refine s_g ?_; first
      | (refine s_gd rfl ?_; first | refine s_gd1 rfl rfl zTr ?_ | refine s_gd0 rfl rfl rfl zTr ?_ | refine s_gd00 rfl rfl zTr ?_ | refine s_gp1 rfl rfl rfl (fun hc => ?_) (fun hc => ?_) | refine s_gp0 rfl rfl rfl (fun hc => ?_) (fun hc => ?_) | refine s_gnp1 rfl rfl rfl (fun hc => ?_) (fun hc => ?_) | refine s_gnp0 rfl rfl rfl (fun hc => ?_) (fun hc => ?_) | refine s_gb1 rfl rfl rfl (fun hc => ?_) (fun hc => ?_) | refine s_gb0 rfl rfl rfl (fun hc => ?_) (fun hc => ?_) | refine s_gnb1 rfl rfl rfl (fun hc => ?_) (fun hc => ?_) | refine s_gnb0 rfl rfl rfl (fun hc => ?_) (fun hc => ?_))
      | (refine s_k 0 rfl ?_; refine s_val rfl rfl rfl (r_move rfl rfl) ?_)
      | (refine s_k 23 rfl ?_; first | refine s_val rfl rfl rfl (r_field tb rfl rfl rfl) ?_ | refine s_val rfl rfl rfl (r_fieldS tb rfl rfl rfl) ?_)
      | (refine s_k 8 rfl ?_; first | (refine' s_val rfl rfl rfl (r_ldv rfl rfl ?qm ?qv) ?_; (case qm => (exact zMm)); (case qv => (exact zLe))) | (refine' s_val rfl rfl rfl (r_ldo rfl rfl ?qw (by simp) ?qv) ?_; (case qw => assumption); (case qv => (exact zLe))))
      | (refine s_k 1 rfl ?_; refine s_val rfl rfl rfl (r_assign rfl rfl) ?_)
      | (refine s_k 13 rfl ?_; first | refine s_val rfl rfl rfl (r_eql rfl rfl rfl) ?_ | refine s_val rfl rfl rfl (r_sub rfl rfl rfl (wrap_in (by simp only [lo, hi]; omega))) ?_)
      | (refine s_k 35 rfl ?_; (refine s_call Try.func238 (by kernel_rfl) rfl rfl rfl rfl rfl rfl (fun w hL => hch w _ _ (hL.at_ m3) (hL.at_ m2)) ?_))
      | (refine s_k 15 rfl ?_; refine s_val rfl rfl rfl (r_conv tb rfl rfl rfl rfl (wrap_in (by simp only [lo, hi]; omega))) ?_)
      | (refine s_k 14 rfl ?_; refine s_val rfl rfl rfl (r_not rfl rfl) ?_)
      | (refine s_k 2 rfl ?_; first | refine s_val rfl rfl rfl (r_pick1 rfl rfl zTr rfl) ?_ | refine s_val rfl rfl rfl (r_pick0 rfl rfl zTr rfl) ?_)
      | (refine s_k 25 rfl ?_; first | refine s_val rfl rfl rfl (r_ixN tb rfl rfl rfl rfl (by omega)) ?_ | refine s_val rfl rfl rfl (r_ixA tb rfl rfl rfl rfl (by omega) (by omega)) ?_ | refine s_val rfl rfl rfl (r_ixO tb rfl rfl rfl rfl (by omega)) ?_)
      | (refine s_k 4 rfl ?_; first | refine s_boxA rfl rfl rfl rfl rfl fun blk => ?_ | refine s_box1 rfl rfl rfl rfl rfl rfl fun blk => ?_)
      | (refine s_k 9 rfl ?_; (first | refine s_st1 tb rfl rfl rfl rfl rfl rfl rfl rfl ?_ | refine s_stA tb rfl rfl rfl rfl (by first | rfl | assumption | (apply Pv.size; assumption)) rfl rfl ?_); (first | refine' st0 ?qs ?_ | refine' st1 ?qs ?_ | refine' st2 ?qs ?_ | refine' st3 ?qs ?_ | refine' st4 ?qs ?_ | refine' st5 ?qs ?_ | refine' st6 ?qs ?_ | refine' st7 ?qs ?_ | refine' st8 ?qs ?_ | refine' st9 ?qs ?_ | refine' st10 ?qs ?_ | refine' st11 ?qs ?_); (case qs => (first | exact set_whole (vs := #[.int .i8 (choV p g).1.x, .int .i8 (choV p g).1.y]) rfl (by simp [Value.oneCell']) | exact set_whole (vs := #[.int .i8 g.x, .int .i8 g.y, .int .i8 g.u, .int .i8 g.v, .int .i16 g.rope, .int .i16 g.eats, .int .i8 g.likes]) rfl (by simp [Value.oneCell']) | exact zSet)))
      | (refine s_k 3 rfl ?_; first | refine s_allocA (t := 34) rfl zImplPas rfl rfl rfl fun blk => ?_ | refine s_allocA (t := 103) rfl zImplGoat0 rfl rfl rfl fun blk => ?_ | refine s_allocA (t := 49) rfl zImplSpot rfl rfl rfl fun blk => ?_)
      | (refine s_k 34 rfl ?_; refine s_val rfl rfl rfl (r_extractL rfl rfl rfl) ?_)
      | refine s_nil ?_)
        | (refine c_g ?_; first | refine c_seq ?_ | refine c_region ?_ | (refine c_gc ?_; first | refine c_cond1 rfl zTr ?_ | refine c_cond0 rfl zTr ?_ | refine z_condd1 rfl ?_ | refine z_condd0 rfl ?_ | refine z_conddn1 rfl ?_ | refine z_conddn0 rfl ?_ | refine c_condd rfl (fun hc => ?_) (fun hc => ?_) | refine c_conddn rfl (fun hc => ?_) (fun hc => ?_) | refine c_condn rfl (fun hc => ?_) (fun hc => ?_) | refine c_cond rfl (fun hc => ?_) (fun hc => ?_)) | refine c_block ?_ | refine c_skip ?_ | refine c_exit ?_ | refine c_ret ?_)
        | (refine e_g ?_; first | refine e_then ?_ | refine e_blkn ?_ | refine e_thenx ?_ | refine e_thenr ?_ | refine e_blkr ?_ | refine e_blkx ?_ | refine e_blky rfl ?_)
        | (refine z_g ?_; first
      | (refine z_k 0 rfl ?_; (refine' z_val rfl rfl rfl ?hr ?hp ?_; (case hr => exact fun N hN => r_move rfl rfl); (case hp => exact rfl)))
      | (refine z_k 23 rfl ?_; first | (refine' z_val rfl rfl rfl ?hr ?hp ?_; (case hr => exact fun N hN => r_field tb rfl rfl rfl); (case hp => exact rfl)) | (refine' z_val rfl rfl rfl ?hr ?hp ?_; (case hr => exact fun N hN => r_fieldS tb rfl rfl rfl); (case hp => exact rfl)))
      | (refine z_k 8 rfl ?_; first | (refine' z_val rfl rfl rfl ?hr ?hp ?_; (case hr => (intro N hN; (refine' r_ldv rfl rfl ?qm ?qv; (case qm => (first | exact List.mem_append_right _ m0 | exact List.mem_append_right _ m1 | exact List.mem_append_right _ m2 | exact List.mem_append_right _ m3 | exact List.mem_append_right _ m4 | exact List.mem_append_right _ m5 | exact List.mem_append_right _ m6 | exact List.mem_append_right _ m7 | exact List.mem_append_right _ m8 | exact List.mem_append_right _ m9 | exact List.mem_append_right _ m10 | exact List.mem_append_right _ m11)); (case qv => (exact zLe))))); (case hp => exact rfl)) | (refine' z_val rfl rfl rfl ?hr ?hp ?_; (case hr => (intro N hN; (refine' r_ldo rfl rfl ?qw (by simp) ?qv; (case qw => assumption); (case qv => (exact zLe))))); (case hp => exact rfl)))
      | (refine z_k 1 rfl ?_; (refine' z_val rfl rfl rfl ?hr ?hp ?_; (case hr => exact fun N hN => r_assign rfl rfl); (case hp => exact rfl)))
      | (refine z_k 13 rfl ?_; first | (refine' z_val rfl rfl rfl ?hr ?hp ?_; (case hr => exact fun N hN => r_eql rfl rfl rfl); (case hp => exact rfl)) | (refine' z_val rfl rfl rfl ?hr ?hp ?_; (case hr => exact fun N hN => r_sub rfl rfl rfl (wrap_in (by simp only [lo, hi]; omega))); (case hp => exact rfl)))
      | (refine z_k 15 rfl ?_; (refine' z_val rfl rfl rfl ?hr ?hp ?_; (case hr => exact fun N hN => r_conv tb rfl rfl rfl rfl (wrap_in (by simp only [lo, hi]; omega))); (case hp => exact rfl)))
      | (refine z_k 14 rfl ?_; (refine' z_val rfl rfl rfl ?hr ?hp ?_; (case hr => exact fun N hN => r_not rfl rfl); (case hp => exact rfl)))
      | (refine z_k 25 rfl ?_; first | (refine' z_val rfl rfl rfl ?hr ?hp ?_; (case hr => exact fun N hN => r_ixN tb rfl rfl rfl rfl (by omega)); (case hp => exact rfl)) | (refine' z_val rfl rfl rfl ?hr ?hp ?_; (case hr => exact fun N hN => r_ixA tb rfl rfl rfl rfl (by omega) (by omega)); (case hp => exact rfl)) | (refine' z_val rfl rfl rfl ?hr ?hp ?_; (case hr => exact fun N hN => r_ixO tb rfl rfl rfl rfl (by omega)); (case hp => exact rfl)))
      | (refine z_k 9 rfl ?_; first | (refine' z_put (i := 0) tb rfl rfl rfl rfl rfl rfl rfl (by first | rfl | assumption | (apply Pv.size; assumption)) rfl ?qs rfl ?hok ?hp ?_; (case qs => (first | exact set_whole (vs := #[.int .i8 (choV p g).1.x, .int .i8 (choV p g).1.y]) rfl (by simp [Value.oneCell']) | exact set_whole (vs := #[.int .i8 g.x, .int .i8 g.y, .int .i8 g.u, .int .i8 g.v, .int .i16 g.rope, .int .i16 g.eats, .int .i8 g.likes]) rfl (by simp [Value.oneCell']) | exact zSet)); (case hok => (first | exact trivial | (assumption))); (case hp => exact rfl)) | (refine' z_put (i := 1) tb rfl rfl rfl rfl rfl rfl rfl (by first | rfl | assumption | (apply Pv.size; assumption)) rfl ?qs rfl ?hok ?hp ?_; (case qs => (first | exact set_whole (vs := #[.int .i8 (choV p g).1.x, .int .i8 (choV p g).1.y]) rfl (by simp [Value.oneCell']) | exact set_whole (vs := #[.int .i8 g.x, .int .i8 g.y, .int .i8 g.u, .int .i8 g.v, .int .i16 g.rope, .int .i16 g.eats, .int .i8 g.likes]) rfl (by simp [Value.oneCell']) | exact zSet)); (case hok => (first | exact trivial | (assumption))); (case hp => exact rfl)) | (refine' z_put (i := 2) tb rfl rfl rfl rfl rfl rfl rfl (by first | rfl | assumption | (apply Pv.size; assumption)) rfl ?qs rfl ?hok ?hp ?_; (case qs => (first | exact set_whole (vs := #[.int .i8 (choV p g).1.x, .int .i8 (choV p g).1.y]) rfl (by simp [Value.oneCell']) | exact set_whole (vs := #[.int .i8 g.x, .int .i8 g.y, .int .i8 g.u, .int .i8 g.v, .int .i16 g.rope, .int .i16 g.eats, .int .i8 g.likes]) rfl (by simp [Value.oneCell']) | exact zSet)); (case hok => (first | exact trivial | (assumption))); (case hp => exact rfl)) | (refine' z_put (i := 3) tb rfl rfl rfl rfl rfl rfl rfl (by first | rfl | assumption | (apply Pv.size; assumption)) rfl ?qs rfl ?hok ?hp ?_; (case qs => (first | exact set_whole (vs := #[.int .i8 (choV p g).1.x, .int .i8 (choV p g).1.y]) rfl (by simp [Value.oneCell']) | exact set_whole (vs := #[.int .i8 g.x, .int .i8 g.y, .int .i8 g.u, .int .i8 g.v, .int .i16 g.rope, .int .i16 g.eats, .int .i8 g.likes]) rfl (by simp [Value.oneCell']) | exact zSet)); (case hok => (first | exact trivial | (assumption))); (case hp => exact rfl)))
      | (refine z_k 34 rfl ?_; (refine' z_val rfl rfl rfl ?hr ?hp ?_; (case hr => exact fun N hN => r_extractL rfl rfl rfl); (case hp => exact rfl)))
      | refine z_nil ?_)
        | (refine' c_drawZ1_2 (id := 3) [false, false, true, true, false] (fun _ => True) [(Sum.inl _ : CalmE.Plan (List (Nat × TypeId × Array Value))), (Sum.inl _ : CalmE.Plan (List (Nat × TypeId × Array Value))), (Sum.inr _ : CalmE.Plan (List (Nat × TypeId × Array Value))), (Sum.inr _ : CalmE.Plan (List (Nat × TypeId × Array Value))), (Sum.inl _ : CalmE.Plan (List (Nat × TypeId × Array Value)))] (by kernel_rfl) (by kernel_rfl) (by kernel_rfl) (by simp only [CalmE.Agree, and_self, true_and, and_true]) (trivial) ?_)
        | (refine e_ret3 (by simp) rfl (re_cell tb rfl m1 rfl (by first | rfl | assumption | (apply Pv.size; assumption))) (re_cell tb rfl m0 rfl rfl) (re_tmp rfl) fun w hL => ⟨rfl, hL.toBelow⟩))
  case pos =>
    have hv : (choV p g).2 = true := by unfold btB at hB; simp at hB; exact hB.2
    have hh : 0 < h := by unfold btB at hB; simp at hB; exact hB.1
    have e1 : bitM p g h = min (min h 5) (p (gi (choV p g).1.x (choV p g).1.y)) := by unfold bitM; simp [hB]
    have e2 : bitP p g h = upd p (gi (choV p g).1.x (choV p g).1.y) (p (gi (choV p g).1.x (choV p g).1.y) - bitM p g h) := by unfold bitP; simp [hB]
    have e3 : bitG p g h = ⟨(choV p g).1.x, (choV p g).1.y, g.u, g.v, g.rope, g.eats, g.likes⟩ := by unfold bitG; simp [hB]
    rw [e2, e1] at hc'
    rw [e3, e1]
    simp only
    simp only [hv] at hch
    generalize (choV p g).1 = c at *
    have hgr := hp.grassA ⟨hr.1, hr.2.1⟩ hr.2.2
    have hset := fun v h3 => hp.setGrassA (v := v) ⟨hr.1, hr.2.1⟩ hr.2.2 h3
    obtain ⟨hx0, hx1, hy0, hy1⟩ := hr
    generalize hq : p (gi c.x c.y) = q at *
    have hfit2 : 0 + 2 + c.y.toNat * 10 + c.x.toNat * 1 < cs.size := by rw [hsz]; omega
    have e4 := hc'.uniq (hset _ (by omega))
    subst e4
    refine enter3 Try.func183 rfl rfl rfl (Own.start w) ?_
    repeat' (first
      | (refine s_g ?_; first
      | (refine s_gd rfl ?_; first | refine s_gd1 rfl rfl zTr ?_ | refine s_gd0 rfl rfl rfl zTr ?_ | refine s_gd00 rfl rfl zTr ?_ | refine s_gp1 rfl rfl rfl (fun hc => ?_) (fun hc => ?_) | refine s_gp0 rfl rfl rfl (fun hc => ?_) (fun hc => ?_) | refine s_gnp1 rfl rfl rfl (fun hc => ?_) (fun hc => ?_) | refine s_gnp0 rfl rfl rfl (fun hc => ?_) (fun hc => ?_) | refine s_gb1 rfl rfl rfl (fun hc => ?_) (fun hc => ?_) | refine s_gb0 rfl rfl rfl (fun hc => ?_) (fun hc => ?_) | refine s_gnb1 rfl rfl rfl (fun hc => ?_) (fun hc => ?_) | refine s_gnb0 rfl rfl rfl (fun hc => ?_) (fun hc => ?_))
      | (refine s_k 0 rfl ?_; refine s_val rfl rfl rfl (r_move rfl rfl) ?_)
      | (refine s_k 23 rfl ?_; first | refine s_val rfl rfl rfl (r_field tb rfl rfl rfl) ?_ | refine s_val rfl rfl rfl (r_fieldS tb rfl rfl rfl) ?_)
      | (refine s_k 8 rfl ?_; first | (refine' s_val rfl rfl rfl (r_ldv rfl rfl ?qm ?qv) ?_; (case qm => (exact zMm)); (case qv => (first | exact ldvL tb rfl rfl | exact ldv1 tb rfl (by assumption) | exact ldv1 tb rfl (hgr) | exact zLd))) | (refine' s_val rfl rfl rfl (r_ldo rfl rfl ?qw (by simp) ?qv) ?_; (case qw => assumption); (case qv => (first | exact ldvL tb rfl rfl | exact ldv1 tb rfl (by assumption) | exact ldv1 tb rfl (hgr) | exact zLd))))
      | (refine s_k 1 rfl ?_; refine s_val rfl rfl rfl (r_assign rfl rfl) ?_)
      | (refine s_k 13 rfl ?_; first | refine s_val rfl rfl rfl (r_eql rfl rfl rfl) ?_ | refine s_val rfl rfl rfl (r_sub rfl rfl rfl (wrap_in (by simp only [lo, hi]; omega))) ?_)
      | (refine s_k 35 rfl ?_; first | (refine s_call Try.func238 (by kernel_rfl) rfl rfl rfl rfl rfl rfl (fun w hL => hch w _ _ (hL.at_ m3) (hL.at_ m2)) ?_) | (refine s_call Try.func109 (by kernel_rfl) rfl rfl rfl rfl rfl rfl (fun w hL => l00Min_lit _ _ _) ?_))
      | (refine s_k 15 rfl ?_; refine s_val rfl rfl rfl (r_conv tb rfl rfl rfl rfl (wrap_in (by simp only [lo, hi]; omega))) ?_)
      | (refine s_k 14 rfl ?_; refine s_val rfl rfl rfl (r_not rfl rfl) ?_)
      | (refine s_k 2 rfl ?_; first | refine s_val rfl rfl rfl (r_pick1 rfl rfl zTr rfl) ?_ | refine s_val rfl rfl rfl (r_pick0 rfl rfl zTr rfl) ?_)
      | (refine s_k 25 rfl ?_; first | refine s_val rfl rfl rfl (r_ixN tb rfl rfl rfl rfl (by omega)) ?_ | refine s_val rfl rfl rfl (r_ixA tb rfl rfl rfl rfl (by omega) (by omega)) ?_ | refine s_val rfl rfl rfl (r_ixO tb rfl rfl rfl rfl (by omega)) ?_)
      | (refine s_k 4 rfl ?_; first | refine s_boxA rfl rfl rfl rfl rfl fun blk => ?_ | refine s_box1 rfl rfl rfl rfl rfl rfl fun blk => ?_)
      | (refine s_k 9 rfl ?_; (first | refine s_st1 tb rfl rfl rfl rfl rfl rfl rfl rfl ?_ | refine s_stA tb rfl rfl rfl rfl (by first | rfl | assumption | (apply Pv.size; assumption)) rfl rfl ?_); (first | refine' st0 ?qs ?_ | refine' st1 ?qs ?_ | refine' st2 ?qs ?_ | refine' st3 ?qs ?_ | refine' st4 ?qs ?_ | refine' st5 ?qs ?_ | refine' st6 ?qs ?_ | refine' st7 ?qs ?_ | refine' st8 ?qs ?_ | refine' st9 ?qs ?_ | refine' st10 ?qs ?_ | refine' st11 ?qs ?_); (case qs => (first | exact set_whole (vs := #[.int .i8 c.x, .int .i8 c.y]) rfl (by simp [Value.oneCell']) | exact set_one hfit2 rfl | exact set_whole (vs := #[.int .i8 c.x, .int .i8 c.y, .int .i8 g.u, .int .i8 g.v, .int .i16 g.rope, .int .i16 g.eats, .int .i8 g.likes]) rfl (by simp [Value.oneCell']) | exact zSet)))
      | (refine s_k 3 rfl ?_; first | refine s_allocA (t := 34) rfl zImplPas rfl rfl rfl fun blk => ?_ | refine s_allocA (t := 103) rfl zImplGoat0 rfl rfl rfl fun blk => ?_ | refine s_allocA (t := 49) rfl zImplSpot rfl rfl rfl fun blk => ?_)
      | (refine s_k 34 rfl ?_; refine s_val rfl rfl rfl (r_extractL rfl rfl rfl) ?_)
      | refine s_nil ?_)
      | (refine c_g ?_; first | refine c_seq ?_ | refine c_region ?_ | (refine c_gc ?_; first | refine c_cond1 rfl zTr ?_ | refine c_cond0 rfl zTr ?_ | refine z_condd1 rfl ?_ | refine z_condd0 rfl ?_ | refine z_conddn1 rfl ?_ | refine z_conddn0 rfl ?_ | refine c_condd rfl (fun hc => ?_) (fun hc => ?_) | refine c_conddn rfl (fun hc => ?_) (fun hc => ?_) | refine c_condn rfl (fun hc => ?_) (fun hc => ?_) | refine c_cond rfl (fun hc => ?_) (fun hc => ?_)) | refine c_block ?_ | refine c_skip ?_ | refine c_exit ?_ | refine c_ret ?_)
      | (refine e_g ?_; first | refine e_then ?_ | refine e_blkn ?_ | refine e_thenx ?_ | refine e_thenr ?_ | refine e_blkr ?_ | refine e_blkx ?_ | refine e_blky rfl ?_)
      | (refine x_g ?_; first
      | (refine x_gd rfl ?_; first | refine x_gd1 rfl rfl zTr ?_ | (refine x_gd0 rfl rfl rfl zTr ?hp ?_; (case hp => exact rfl)))
      | (refine x_k 0 rfl ?_; (refine x_val rfl rfl rfl (r_move rfl rfl) ?hp ?_; (case hp => exact rfl)))
      | (refine x_k 23 rfl ?_; first | (refine x_val rfl rfl rfl (r_field tb rfl rfl rfl) ?hp ?_; (case hp => exact rfl)) | (refine x_val rfl rfl rfl (r_fieldS tb rfl rfl rfl) ?hp ?_; (case hp => exact rfl)))
      | (refine x_k 8 rfl ?_; first | (refine' x_val rfl rfl rfl (r_ldv rfl rfl ?qm ?qv) ?hp ?_; (case qm => (exact zMm)); (case qv => (first | exact ldvL tb rfl rfl | exact ldv1 tb rfl (by assumption) | exact ldv1 tb rfl (hgr) | exact zLd)); (case hp => exact rfl)) | (refine' x_val rfl rfl rfl (r_ldo rfl rfl ?qw (by simp) ?qv) ?hp ?_; (case qw => assumption); (case qv => (first | exact ldvL tb rfl rfl | exact ldv1 tb rfl (by assumption) | exact ldv1 tb rfl (hgr) | exact zLd)); (case hp => exact rfl)))
      | (refine x_k 1 rfl ?_; (refine x_val rfl rfl rfl (r_assign rfl rfl) ?hp ?_; (case hp => exact rfl)))
      | (refine x_k 13 rfl ?_; first | (refine x_val rfl rfl rfl (r_eql rfl rfl rfl) ?hp ?_; (case hp => exact rfl)) | (refine x_val rfl rfl rfl (r_sub rfl rfl rfl (wrap_in (by simp only [lo, hi]; omega))) ?hp ?_; (case hp => exact rfl)))
      | (refine x_k 35 rfl ?_; first | (refine x_call Try.func238 (by kernel_rfl) rfl rfl rfl rfl rfl rfl (fun w hL => hch w _ _ (hL.at_ m3) (hL.at_ m2)) ?hp ?_; (case hp => exact rfl)) | (refine x_call Try.func109 (by kernel_rfl) rfl rfl rfl rfl rfl rfl (fun w hL => l00Min_lit _ _ _) ?hp ?_; (case hp => exact rfl)))
      | (refine x_k 15 rfl ?_; (refine x_val rfl rfl rfl (r_conv tb rfl rfl rfl rfl (wrap_in (by simp only [lo, hi]; omega))) ?hp ?_; (case hp => exact rfl)))
      | (refine x_k 14 rfl ?_; (refine x_val rfl rfl rfl (r_not rfl rfl) ?hp ?_; (case hp => exact rfl)))
      | (refine x_k 2 rfl ?_; first | (refine x_val rfl rfl rfl (r_pick1 rfl rfl zTr rfl) ?hp ?_; (case hp => exact rfl)) | (refine x_val rfl rfl rfl (r_pick0 rfl rfl zTr rfl) ?hp ?_; (case hp => exact rfl)))
      | (refine x_k 25 rfl ?_; first | (refine x_val rfl rfl rfl (r_ixN tb rfl rfl rfl rfl (by omega)) ?hp ?_; (case hp => exact rfl)) | (refine x_val rfl rfl rfl (r_ixA tb rfl rfl rfl rfl (by omega) (by omega)) ?hp ?_; (case hp => exact rfl)) | (refine x_val rfl rfl rfl (r_ixO tb rfl rfl rfl rfl (by omega)) ?hp ?_; (case hp => exact rfl)))
      | (refine x_k 4 rfl ?_; (refine x_boxA rfl rfl rfl rfl rfl ?hp (fun blk => ?_); (case hp => exact rfl)))
      | (refine x_k 9 rfl ?_; first | (refine' x_putA0 tb rfl rfl rfl rfl (by first | rfl | assumption | (apply Pv.size; assumption)) ?qs (by first | rfl | assumption | (apply Pv.size; assumption)) rfl rfl ?hp ?_; (case qs => (first | exact set_whole (vs := #[.int .i8 c.x, .int .i8 c.y]) rfl (by simp [Value.oneCell']) | exact set_one hfit2 rfl | exact set_whole (vs := #[.int .i8 c.x, .int .i8 c.y, .int .i8 g.u, .int .i8 g.v, .int .i16 g.rope, .int .i16 g.eats, .int .i8 g.likes]) rfl (by simp [Value.oneCell']) | exact zSet)); (case hp => exact rfl)) | (refine' x_putA1 tb rfl rfl rfl rfl (by first | rfl | assumption | (apply Pv.size; assumption)) ?qs (by first | rfl | assumption | (apply Pv.size; assumption)) rfl rfl ?hp ?_; (case qs => (first | exact set_whole (vs := #[.int .i8 c.x, .int .i8 c.y]) rfl (by simp [Value.oneCell']) | exact set_one hfit2 rfl | exact set_whole (vs := #[.int .i8 c.x, .int .i8 c.y, .int .i8 g.u, .int .i8 g.v, .int .i16 g.rope, .int .i16 g.eats, .int .i8 g.likes]) rfl (by simp [Value.oneCell']) | exact zSet)); (case hp => exact rfl)) | (refine' x_putA2 tb rfl rfl rfl rfl (by first | rfl | assumption | (apply Pv.size; assumption)) ?qs (by first | rfl | assumption | (apply Pv.size; assumption)) rfl rfl ?hp ?_; (case qs => (first | exact set_whole (vs := #[.int .i8 c.x, .int .i8 c.y]) rfl (by simp [Value.oneCell']) | exact set_one hfit2 rfl | exact set_whole (vs := #[.int .i8 c.x, .int .i8 c.y, .int .i8 g.u, .int .i8 g.v, .int .i16 g.rope, .int .i16 g.eats, .int .i8 g.likes]) rfl (by simp [Value.oneCell']) | exact zSet)); (case hp => exact rfl)))
      | (refine x_k 3 rfl ?_; first | (refine x_allocA (t := 34) rfl zImplPas rfl rfl rfl ?hp (fun blk => ?_); (case hp => exact rfl)) | (refine x_allocA (t := 103) rfl zImplGoat0 rfl rfl rfl ?hp (fun blk => ?_); (case hp => exact rfl)) | (refine x_allocA (t := 49) rfl zImplSpot rfl rfl rfl ?hp (fun blk => ?_); (case hp => exact rfl)))
      | (refine x_k 34 rfl ?_; (refine x_val rfl rfl rfl (r_extractL rfl rfl rfl) ?hp ?_; (case hp => exact rfl)))
      | refine x_nil0 ?_
      | refine x_nil ?_)
      | (refine' c_drawX (id := 4) [(Sum.inl _ : Calm.Plan), (Sum.inl _ : Calm.Plan), (Sum.inl _ : Calm.Plan), (Sum.inl _ : Calm.Plan), (Sum.inl _ : Calm.Plan), (Sum.inl _ : Calm.Plan), (Sum.inl _ : Calm.Plan), (Sum.inl _ : Calm.Plan), (Sum.inl _ : Calm.Plan), (Sum.inl _ : Calm.Plan), (Sum.inl _ : Calm.Plan), (Sum.inl _ : Calm.Plan), (Sum.inl _ : Calm.Plan)] (by kernel_rfl) (by kernel_rfl) (by kernel_rfl) ?_)
      | (refine' c_drawXT (id := 5) 14 [(Sum.inl _ : Calm.Plan), (Sum.inl _ : Calm.Plan), (Sum.inl _ : Calm.Plan), (Sum.inl _ : Calm.Plan), (Sum.inl _ : Calm.Plan), (Sum.inl _ : Calm.Plan), (Sum.inl _ : Calm.Plan), (Sum.inl _ : Calm.Plan), (Sum.inl _ : Calm.Plan), (Sum.inl _ : Calm.Plan), (Sum.inl _ : Calm.Plan), (Sum.inl _ : Calm.Plan), (Sum.inl _ : Calm.Plan), (Sum.inl _ : Calm.Plan)] (by kernel_rfl) (by kernel_rfl) (by kernel_rfl) ?_)
      | refine e_tail ?_
      | (refine z_g ?_; first
      | (refine z_k 0 rfl ?_; (refine' z_val rfl rfl rfl ?hr ?hp ?_; (case hr => exact fun N hN => r_move rfl rfl); (case hp => exact rfl)))
      | (refine z_k 23 rfl ?_; first | (refine' z_val rfl rfl rfl ?hr ?hp ?_; (case hr => exact fun N hN => r_field tb rfl rfl rfl); (case hp => exact rfl)) | (refine' z_val rfl rfl rfl ?hr ?hp ?_; (case hr => exact fun N hN => r_fieldS tb rfl rfl rfl); (case hp => exact rfl)))
      | (refine z_k 8 rfl ?_; first | (refine' z_val rfl rfl rfl ?hr ?hp ?_; (case hr => (intro N hN; (refine' r_ldv rfl rfl ?qm ?qv; (case qm => (first | exact List.mem_append_right _ m0 | exact List.mem_append_right _ m1 | exact List.mem_append_right _ m2 | exact List.mem_append_right _ m3 | exact List.mem_append_right _ m4 | exact List.mem_append_right _ m5 | exact List.mem_append_right _ m6 | exact List.mem_append_right _ m7 | exact List.mem_append_right _ m8 | exact List.mem_append_right _ m9 | exact List.mem_append_right _ m10 | exact List.mem_append_right _ m11)); (case qv => (first | exact ldvL tb rfl rfl | exact ldv1 tb rfl (by assumption) | exact ldv1 tb rfl (hgr) | exact zLd))))); (case hp => exact rfl)) | (refine' z_val rfl rfl rfl ?hr ?hp ?_; (case hr => (intro N hN; (refine' r_ldo rfl rfl ?qw (by simp) ?qv; (case qw => assumption); (case qv => (first | exact ldvL tb rfl rfl | exact ldv1 tb rfl (by assumption) | exact ldv1 tb rfl (hgr) | exact zLd))))); (case hp => exact rfl)))
      | (refine z_k 1 rfl ?_; (refine' z_val rfl rfl rfl ?hr ?hp ?_; (case hr => exact fun N hN => r_assign rfl rfl); (case hp => exact rfl)))
      | (refine z_k 13 rfl ?_; first | (refine' z_val rfl rfl rfl ?hr ?hp ?_; (case hr => exact fun N hN => r_eql rfl rfl rfl); (case hp => exact rfl)) | (refine' z_val rfl rfl rfl ?hr ?hp ?_; (case hr => exact fun N hN => r_sub rfl rfl rfl (wrap_in (by simp only [lo, hi]; omega))); (case hp => exact rfl)))
      | (refine z_k 15 rfl ?_; (refine' z_val rfl rfl rfl ?hr ?hp ?_; (case hr => exact fun N hN => r_conv tb rfl rfl rfl rfl (wrap_in (by simp only [lo, hi]; omega))); (case hp => exact rfl)))
      | (refine z_k 14 rfl ?_; (refine' z_val rfl rfl rfl ?hr ?hp ?_; (case hr => exact fun N hN => r_not rfl rfl); (case hp => exact rfl)))
      | (refine z_k 25 rfl ?_; first | (refine' z_val rfl rfl rfl ?hr ?hp ?_; (case hr => exact fun N hN => r_ixN tb rfl rfl rfl rfl (by omega)); (case hp => exact rfl)) | (refine' z_val rfl rfl rfl ?hr ?hp ?_; (case hr => exact fun N hN => r_ixA tb rfl rfl rfl rfl (by omega) (by omega)); (case hp => exact rfl)) | (refine' z_val rfl rfl rfl ?hr ?hp ?_; (case hr => exact fun N hN => r_ixO tb rfl rfl rfl rfl (by omega)); (case hp => exact rfl)))
      | (refine z_k 9 rfl ?_; first | (refine' z_put (i := 0) tb rfl rfl rfl rfl rfl rfl rfl (by first | rfl | assumption | (apply Pv.size; assumption)) rfl ?qs rfl ?hok ?hp ?_; (case qs => (first | exact set_whole (vs := #[.int .i8 c.x, .int .i8 c.y]) rfl (by simp [Value.oneCell']) | exact set_one hfit2 rfl | exact set_whole (vs := #[.int .i8 c.x, .int .i8 c.y, .int .i8 g.u, .int .i8 g.v, .int .i16 g.rope, .int .i16 g.eats, .int .i8 g.likes]) rfl (by simp [Value.oneCell']) | exact zSet)); (case hok => (first | exact trivial | (assumption))); (case hp => exact rfl)) | (refine' z_put (i := 1) tb rfl rfl rfl rfl rfl rfl rfl (by first | rfl | assumption | (apply Pv.size; assumption)) rfl ?qs rfl ?hok ?hp ?_; (case qs => (first | exact set_whole (vs := #[.int .i8 c.x, .int .i8 c.y]) rfl (by simp [Value.oneCell']) | exact set_one hfit2 rfl | exact set_whole (vs := #[.int .i8 c.x, .int .i8 c.y, .int .i8 g.u, .int .i8 g.v, .int .i16 g.rope, .int .i16 g.eats, .int .i8 g.likes]) rfl (by simp [Value.oneCell']) | exact zSet)); (case hok => (first | exact trivial | (assumption))); (case hp => exact rfl)) | (refine' z_put (i := 2) tb rfl rfl rfl rfl rfl rfl rfl (by first | rfl | assumption | (apply Pv.size; assumption)) rfl ?qs rfl ?hok ?hp ?_; (case qs => (first | exact set_whole (vs := #[.int .i8 c.x, .int .i8 c.y]) rfl (by simp [Value.oneCell']) | exact set_one hfit2 rfl | exact set_whole (vs := #[.int .i8 c.x, .int .i8 c.y, .int .i8 g.u, .int .i8 g.v, .int .i16 g.rope, .int .i16 g.eats, .int .i8 g.likes]) rfl (by simp [Value.oneCell']) | exact zSet)); (case hok => (first | exact trivial | (assumption))); (case hp => exact rfl)) | (refine' z_put (i := 3) tb rfl rfl rfl rfl rfl rfl rfl (by first | rfl | assumption | (apply Pv.size; assumption)) rfl ?qs rfl ?hok ?hp ?_; (case qs => (first | exact set_whole (vs := #[.int .i8 c.x, .int .i8 c.y]) rfl (by simp [Value.oneCell']) | exact set_one hfit2 rfl | exact set_whole (vs := #[.int .i8 c.x, .int .i8 c.y, .int .i8 g.u, .int .i8 g.v, .int .i16 g.rope, .int .i16 g.eats, .int .i8 g.likes]) rfl (by simp [Value.oneCell']) | exact zSet)); (case hok => (first | exact trivial | (assumption))); (case hp => exact rfl)))
      | (refine z_k 34 rfl ?_; (refine' z_val rfl rfl rfl ?hr ?hp ?_; (case hr => exact fun N hN => r_extractL rfl rfl rfl); (case hp => exact rfl)))
      | refine z_nil ?_)
      | (refine' c_drawZ1_2 (id := 7) [false, false, false, true, true, false] (fun _ => True) [(Sum.inl _ : CalmE.Plan (List (Nat × TypeId × Array Value))), (Sum.inl _ : CalmE.Plan (List (Nat × TypeId × Array Value))), (Sum.inl _ : CalmE.Plan (List (Nat × TypeId × Array Value))), (Sum.inr _ : CalmE.Plan (List (Nat × TypeId × Array Value))), (Sum.inr _ : CalmE.Plan (List (Nat × TypeId × Array Value))), (Sum.inl _ : CalmE.Plan (List (Nat × TypeId × Array Value)))] (by kernel_rfl) (by kernel_rfl) (by kernel_rfl) (by simp only [CalmE.Agree, and_self, true_and, and_true]) (trivial) ?_)
      | (refine e_ret3 (by simp) rfl (re_cell tb rfl m1 rfl (by first | rfl | assumption | (apply Pv.size; assumption))) (re_cell tb rfl m0 rfl rfl) (re_tmp rfl) fun w hL => ⟨rfl, hL.toBelow⟩))
end Go.Proofs.YtdnndidihedndaaRR
