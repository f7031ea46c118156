import Derived.Test.YtdnndidihedndaaRRQf36
import Derived.Test.YtdnndidihedndaaRRQf38
/- BiteOnce: both functions. No condition. -/
namespace Go.Proofs.YtdnndidihedndaaRR
set_option linter.unusedVariables false
set_option linter.unusedSimpArgs false
open Go.RowKit Mem Wk
attribute [local irreducible] Calls Wk.S Wk.C Wk.E Wk.X Wk.T Wk.Y Wk.Z Wk.andV Wk.shrV Calm.wpLex CalmB.wpLex CalmE.wpLex bfsN
theorem chC0 {p : Nat → Int} {g : Gt} {h : Int} (hs : g.ok) (h0 : chC p g h = 0) : GtOn p g ∧ 0 < h ∧ h ≤ 100 := by
  have h1 : hunC p g h = 0 := by
    unfold chC at h0
    split at h0
    · assumption
    · rename_i h1; exact absurd h0 h1
  obtain ⟨h2, h3, h4⟩ := hunC0 h1
  obtain ⟨ha, hb, hc, hr⟩ := gtC0 h2
  unfold inB at h3
  simp only [Bool.and_eq_true, decide_eq_true_eq] at h3
  exact ⟨⟨hs, hr, ha, hb, hc⟩, by omega, by omega⟩
theorem bGoat0 (w : World) : (Instr.build 103 #[]).run Try.prog w = .ok (.agg #[.int .i8 0, .int .i8 0, .int .i8 0, .int .i8 0, .int .i16 0, .int .i16 0, .int .i8 0]) w := by kernel_rfl
theorem chR_eq (p : Nat → Int) (g : Gt) (h : Int) : chR p g h = .tuple #[.agg #[.int .i8 (chV p g h).x, .int .i8 (chV p g h).y], .int .i64 (chC p g h)] := rfl
theorem spl_lit (a b c d e f h x y : Value) : splice #[a, b, c, d, e, f, h] 0 #[x, y] = #[x, y, c, d, e, f, h] := by simp [splice]
set_option maxRecDepth 100000 in
set_option maxHeartbeats 1600000 in
theorem implBiteOnce_no (p : Nat → Int) (cs : Array Value) (g : Gt) (h : Int) (w : World) (hp : Pv p cs) (hs : g.ok) (h0 : ¬ chC p g h = 0) :
    Calls Try.prog 83 #[.agg cs, .agg #[.int .i8 g.x, .int .i8 g.y, .int .i8 g.u, .int .i8 g.v, .int .i16 g.rope, .int .i16 g.eats, .int .i8 g.likes], .int .i64 h] w fun e w' => e = .returned (.tuple #[.agg zP, .agg #[.int .i8 0, .int .i8 0, .int .i8 0, .int .i8 0, .int .i16 0, .int .i16 0, .int .i8 0], .int .i64 0, .int .i64 (chC p g h)]) ∧ Below w.heap.size w w' := by
  have hsz := hp.size
  have hch := fun w => implChoiceOf_any p cs g h w hp hs
  simp only [chR_eq] at hch
  refine enter3 Try.func83 rfl rfl rfl (Own.start w) ?_
  repeat' (first
    | (refine s_g ?_; first
      | (refine s_k 0 rfl ?_; refine s_val rfl rfl rfl (r_move rfl rfl) ?_)
      | (refine s_k 8 rfl ?_; first | (refine' s_val rfl rfl rfl (r_ldv rfl rfl ?qm ?qv) ?_; (case qm => (exact zMm)); (case qv => (exact zLe))) | (refine' s_val rfl rfl rfl (r_ldo rfl rfl ?qw (by simp) ?qv) ?_; (case qw => assumption); (case qv => (exact zLe))))
      | (refine s_k 1 rfl ?_; refine s_val rfl rfl rfl (r_assign rfl rfl) ?_)
      | (refine s_k 13 rfl ?_; refine s_val rfl rfl rfl (r_neq rfl rfl rfl) ?_)
      | (refine s_k 35 rfl ?_; (refine s_call Try.func184 (by kernel_rfl) rfl rfl rfl rfl rfl rfl (fun w hL => hch w) ?_))
      | (refine s_k 4 rfl ?_; first | refine s_boxA rfl rfl rfl rfl rfl fun blk => ?_ | refine s_box1 rfl rfl rfl rfl rfl rfl fun blk => ?_)
      | (refine s_k 9 rfl ?_; (first | refine s_st1 tb rfl rfl rfl rfl rfl rfl rfl rfl ?_ | refine s_stA tb rfl rfl rfl rfl (by first | rfl | assumption | (apply Pv.size; assumption)) rfl rfl ?_); (first | refine' st0 ?qs ?_ | refine' st1 ?qs ?_ | refine' st2 ?qs ?_ | refine' st3 ?qs ?_ | refine' st4 ?qs ?_ | refine' st5 ?qs ?_ | refine' st6 ?qs ?_ | refine' st7 ?qs ?_ | refine' st8 ?qs ?_ | refine' st9 ?qs ?_ | refine' st10 ?qs ?_ | refine' st11 ?qs ?_); (case qs => (first | exact set_whole (vs := #[.int .i8 (chV p g h).x, .int .i8 (chV p g h).y]) rfl (by simp [Value.oneCell']) | exact set_whole (vs := #[.int .i8 0, .int .i8 0, .int .i8 0, .int .i8 0, .int .i16 0, .int .i16 0, .int .i8 0]) rfl (by simp [Value.oneCell']) | exact zSet)))
      | (refine s_k 3 rfl ?_; first | refine s_allocA (t := 34) rfl zImplPas rfl rfl rfl fun blk => ?_ | refine s_allocA (t := 103) rfl zImplGoat0 rfl rfl rfl fun blk => ?_ | refine s_allocA (t := 49) rfl zImplSpot rfl rfl rfl fun blk => ?_)
      | (refine s_k 34 rfl ?_; refine s_val rfl rfl rfl (r_extractL rfl rfl rfl) ?_)
      | (refine s_k 5 rfl ?_; first | refine s_val rfl rfl rfl (r_build rfl rfl (fun w => bPas0 w)) ?_ | refine s_val rfl rfl rfl (r_build rfl rfl (fun w => bGoat0 w)) ?_)
      | refine s_nil ?_)
    | (refine c_g ?_; first | refine c_seq ?_ | refine c_region ?_ | (refine c_gc ?_; first | refine c_cond1 rfl zTr ?_ | refine c_cond0 rfl zTr ?_ | refine z_condd1 rfl ?_ | refine z_condd0 rfl ?_ | refine z_conddn1 rfl ?_ | refine z_conddn0 rfl ?_ | refine c_condd rfl (fun hc => ?_) (fun hc => ?_) | refine c_conddn rfl (fun hc => ?_) (fun hc => ?_) | refine c_condn rfl (fun hc => ?_) (fun hc => ?_) | refine c_cond rfl (fun hc => ?_) (fun hc => ?_)) | refine c_block ?_ | refine c_skip ?_ | refine c_exit ?_ | refine c_ret ?_)
    | (refine e_g ?_; first | refine e_then ?_ | refine e_blkn ?_ | refine e_thenx ?_ | refine e_thenr ?_ | refine e_blkr ?_ | refine e_blkx ?_ | refine e_blky rfl ?_)
    | (refine e_ret4 (by simp) rfl (re_cell tb rfl m2 rfl rfl) (re_cell tb rfl m1 rfl rfl) (re_tmp rfl) (re_tmp rfl) fun w hL => ⟨rfl, hL.toBelow⟩))
set_option maxRecDepth 100000 in
set_option maxHeartbeats 1600000 in
theorem implBiteOnce_ok (p : Nat → Int) (cs c' : Array Value) (g : Gt) (h : Int) (w : World) (hp : Pv p cs) (hs : g.ok) (h0 : chC p g h = 0) (hc' : Pv (bitP p g h) c') :
    Calls Try.prog 83 #[.agg cs, .agg #[.int .i8 g.x, .int .i8 g.y, .int .i8 g.u, .int .i8 g.v, .int .i16 g.rope, .int .i16 g.eats, .int .i8 g.likes], .int .i64 h] w fun e w' => e = .returned (.tuple #[.agg c', .agg #[.int .i8 (bitG p g h).x, .int .i8 (bitG p g h).y, .int .i8 (bitG p g h).u, .int .i8 (bitG p g h).v, .int .i16 (bitG p g h).rope, .int .i16 (bitG p g h).eats, .int .i8 (bitG p g h).likes], .int .i64 (bitM p g h), .int .i64 0]) ∧ Below w.heap.size w w' := by
  have hsz := hp.size
  have hch := fun w => implChoiceOf_any p cs g h w hp hs
  simp only [chR_eq, h0] at hch
  obtain ⟨hon, hh, hh2⟩ := chC0 hs h0
  obtain ⟨t1, t2, t3, t4, t5⟩ := bitG_tail p g h
  rw [t1, t2, t3, t4, t5]
  refine enter3 Try.func83 rfl rfl rfl (Own.start w) ?_
  repeat' (first
    | (refine s_g ?_; first
      | (refine s_k 0 rfl ?_; refine s_val rfl rfl rfl (r_move rfl rfl) ?_)
      | (refine s_k 8 rfl ?_; first | (refine' s_val rfl rfl rfl (r_ldv rfl rfl ?qm ?qv) ?_; (case qm => (exact zMm)); (case qv => (exact zLe))) | (refine' s_val rfl rfl rfl (r_ldo rfl rfl ?qw (by simp) ?qv) ?_; (case qw => assumption); (case qv => (exact zLe))))
      | (refine s_k 1 rfl ?_; refine s_val rfl rfl rfl (r_assign rfl rfl) ?_)
      | (refine s_k 13 rfl ?_; refine s_val rfl rfl rfl (r_neq rfl rfl rfl) ?_)
      | (refine s_k 35 rfl ?_; first | (refine s_call Try.func184 (by kernel_rfl) rfl rfl rfl rfl rfl rfl (fun w hL => hch w) ?_) | (refine s_callU4_3 (Pf := fun d1 d2 => d1 = c' ∧ d2 = #[.int .i8 (bitG p g h).x, .int .i8 (bitG p g h).y, .int .i8 g.u, .int .i8 g.v, .int .i16 g.rope, .int .i16 g.eats, .int .i8 g.likes]) Try.func185 (by kernel_rfl) rfl rfl rfl rfl rfl rfl (fun w hL => (bite_any p cs _ _ _ _ 0 g h w hp hon (Kn.ne2 hL (i := 4) (j := 3) rfl rfl (by omega)) (hL.at_ m4) (hL.at_ m3) (by simp) (by simp [gtA])).mono fun e w' ⟨he, c, hP, hU⟩ => ⟨he, c, _, ⟨hP.uniq hc', spl_lit _ _ _ _ _ _ _ _ _⟩, hU⟩) fun d1 d2 hd => ?_; obtain ⟨rfl, rfl⟩ := hd))
      | (refine s_k 4 rfl ?_; first | refine s_boxA rfl rfl rfl rfl rfl fun blk => ?_ | refine s_box1 rfl rfl rfl rfl rfl rfl fun blk => ?_)
      | (refine s_k 9 rfl ?_; (first | refine s_st1 tb rfl rfl rfl rfl rfl rfl rfl rfl ?_ | refine s_stA tb rfl rfl rfl rfl (by first | rfl | assumption | (apply Pv.size; assumption)) rfl rfl ?_); (first | refine' st0 ?qs ?_ | refine' st1 ?qs ?_ | refine' st2 ?qs ?_ | refine' st3 ?qs ?_ | refine' st4 ?qs ?_ | refine' st5 ?qs ?_ | refine' st6 ?qs ?_ | refine' st7 ?qs ?_ | refine' st8 ?qs ?_ | refine' st9 ?qs ?_ | refine' st10 ?qs ?_ | refine' st11 ?qs ?_); (case qs => (first | exact set_whole (vs := #[.int .i8 (chV p g h).x, .int .i8 (chV p g h).y]) rfl (by simp [Value.oneCell']) | exact set_whole (vs := #[.int .i8 (bitG p g h).x, .int .i8 (bitG p g h).y, .int .i8 g.u, .int .i8 g.v, .int .i16 g.rope, .int .i16 g.eats, .int .i8 g.likes]) rfl (by simp [Value.oneCell']) | exact zSet)))
      | (refine s_k 3 rfl ?_; first | refine s_allocA (t := 34) rfl zImplPas rfl rfl rfl fun blk => ?_ | refine s_allocA (t := 103) rfl zImplGoat0 rfl rfl rfl fun blk => ?_ | refine s_allocA (t := 49) rfl zImplSpot rfl rfl rfl fun blk => ?_)
      | (refine s_k 34 rfl ?_; refine s_val rfl rfl rfl (r_extractL rfl rfl rfl) ?_)
      | (refine s_k 5 rfl ?_; first | refine s_val rfl rfl rfl (r_build rfl rfl (fun w => bPas0 w)) ?_ | refine s_val rfl rfl rfl (r_build rfl rfl (fun w => bGoat0 w)) ?_)
      | refine s_nil ?_)
    | (refine c_g ?_; first | refine c_seq ?_ | refine c_region ?_ | (refine c_gc ?_; first | refine c_cond1 rfl zTr ?_ | refine c_cond0 rfl zTr ?_ | refine z_condd1 rfl ?_ | refine z_condd0 rfl ?_ | refine z_conddn1 rfl ?_ | refine z_conddn0 rfl ?_ | refine c_condd rfl (fun hc => ?_) (fun hc => ?_) | refine c_conddn rfl (fun hc => ?_) (fun hc => ?_) | refine c_condn rfl (fun hc => ?_) (fun hc => ?_) | refine c_cond rfl (fun hc => ?_) (fun hc => ?_)) | refine c_block ?_ | refine c_skip ?_ | refine c_exit ?_ | refine c_ret ?_)
    | (refine e_g ?_; first | refine e_then ?_ | refine e_blkn ?_ | refine e_thenx ?_ | refine e_thenr ?_ | refine e_blkr ?_ | refine e_blkx ?_ | refine e_blky rfl ?_)
    | (refine z_g ?_; first
      | (refine z_k 0 rfl ?_; (refine' z_val rfl rfl rfl ?hr ?hp ?_; (case hr => exact fun N hN => r_move rfl rfl); (case hp => exact rfl)))
      | (refine z_k 8 rfl ?_; first | (refine' z_val rfl rfl rfl ?hr ?hp ?_; (case hr => (intro N hN; (refine' r_ldv rfl rfl ?qm ?qv; (case qm => (first | exact List.mem_append_right _ m0 | exact List.mem_append_right _ m1 | exact List.mem_append_right _ m2 | exact List.mem_append_right _ m3 | exact List.mem_append_right _ m4 | exact List.mem_append_right _ m5 | exact List.mem_append_right _ m6 | exact List.mem_append_right _ m7 | exact List.mem_append_right _ m8 | exact List.mem_append_right _ m9 | exact List.mem_append_right _ m10 | exact List.mem_append_right _ m11)); (case qv => (exact zLe))))); (case hp => exact rfl)) | (refine' z_val rfl rfl rfl ?hr ?hp ?_; (case hr => (intro N hN; (refine' r_ldo rfl rfl ?qw (by simp) ?qv; (case qw => assumption); (case qv => (exact zLe))))); (case hp => exact rfl)))
      | (refine z_k 1 rfl ?_; (refine' z_val rfl rfl rfl ?hr ?hp ?_; (case hr => exact fun N hN => r_assign rfl rfl); (case hp => exact rfl)))
      | (refine z_k 13 rfl ?_; (refine' z_val rfl rfl rfl ?hr ?hp ?_; (case hr => exact fun N hN => r_neq rfl rfl rfl); (case hp => exact rfl)))
      | (refine z_k 9 rfl ?_; first | (refine' z_put (i := 0) tb rfl rfl rfl rfl rfl rfl rfl (by first | rfl | assumption | (apply Pv.size; assumption)) rfl ?qs rfl ?hok ?hp ?_; (case qs => (first | exact set_whole (vs := #[.int .i8 (chV p g h).x, .int .i8 (chV p g h).y]) rfl (by simp [Value.oneCell']) | exact set_whole (vs := #[.int .i8 (bitG p g h).x, .int .i8 (bitG p g h).y, .int .i8 g.u, .int .i8 g.v, .int .i16 g.rope, .int .i16 g.eats, .int .i8 g.likes]) rfl (by simp [Value.oneCell']) | exact zSet)); (case hok => (first | exact trivial | (assumption))); (case hp => exact rfl)) | (refine' z_put (i := 1) tb rfl rfl rfl rfl rfl rfl rfl (by first | rfl | assumption | (apply Pv.size; assumption)) rfl ?qs rfl ?hok ?hp ?_; (case qs => (first | exact set_whole (vs := #[.int .i8 (chV p g h).x, .int .i8 (chV p g h).y]) rfl (by simp [Value.oneCell']) | exact set_whole (vs := #[.int .i8 (bitG p g h).x, .int .i8 (bitG p g h).y, .int .i8 g.u, .int .i8 g.v, .int .i16 g.rope, .int .i16 g.eats, .int .i8 g.likes]) rfl (by simp [Value.oneCell']) | exact zSet)); (case hok => (first | exact trivial | (assumption))); (case hp => exact rfl)) | (refine' z_put (i := 2) tb rfl rfl rfl rfl rfl rfl rfl (by first | rfl | assumption | (apply Pv.size; assumption)) rfl ?qs rfl ?hok ?hp ?_; (case qs => (first | exact set_whole (vs := #[.int .i8 (chV p g h).x, .int .i8 (chV p g h).y]) rfl (by simp [Value.oneCell']) | exact set_whole (vs := #[.int .i8 (bitG p g h).x, .int .i8 (bitG p g h).y, .int .i8 g.u, .int .i8 g.v, .int .i16 g.rope, .int .i16 g.eats, .int .i8 g.likes]) rfl (by simp [Value.oneCell']) | exact zSet)); (case hok => (first | exact trivial | (assumption))); (case hp => exact rfl)) | (refine' z_put (i := 3) tb rfl rfl rfl rfl rfl rfl rfl (by first | rfl | assumption | (apply Pv.size; assumption)) rfl ?qs rfl ?hok ?hp ?_; (case qs => (first | exact set_whole (vs := #[.int .i8 (chV p g h).x, .int .i8 (chV p g h).y]) rfl (by simp [Value.oneCell']) | exact set_whole (vs := #[.int .i8 (bitG p g h).x, .int .i8 (bitG p g h).y, .int .i8 g.u, .int .i8 g.v, .int .i16 g.rope, .int .i16 g.eats, .int .i8 g.likes]) rfl (by simp [Value.oneCell']) | exact zSet)); (case hok => (first | exact trivial | (assumption))); (case hp => exact rfl)))
      | (refine z_k 34 rfl ?_; (refine' z_val rfl rfl rfl ?hr ?hp ?_; (case hr => exact fun N hN => r_extractL rfl rfl rfl); (case hp => exact rfl)))
      | refine z_nil ?_)
    | (refine' c_drawZ1_2 (id := 5) [false, false, false, true, true, false, false] (fun _ => True) [(Sum.inl _ : CalmE.Plan (List (Nat × TypeId × Array Value))), (Sum.inl _ : CalmE.Plan (List (Nat × TypeId × Array Value))), (Sum.inl _ : CalmE.Plan (List (Nat × TypeId × Array Value))), (Sum.inr _ : CalmE.Plan (List (Nat × TypeId × Array Value))), (Sum.inr _ : CalmE.Plan (List (Nat × TypeId × Array Value))), (Sum.inl _ : CalmE.Plan (List (Nat × TypeId × Array Value))), (Sum.inl _ : CalmE.Plan (List (Nat × TypeId × Array Value)))] (by kernel_rfl) (by kernel_rfl) (by kernel_rfl) (by simp only [CalmE.Agree, and_self, true_and, and_true]) (trivial) ?_)
    | (refine e_ret4 (by simp) rfl (re_cell tb rfl m1 rfl (by first | rfl | assumption | (apply Pv.size; assumption))) (re_cell tb rfl m0 rfl rfl) (re_tmp rfl) (re_tmp rfl) fun w hL => ⟨rfl, hL.toBelow⟩))
set_option maxRecDepth 100000 in
set_option maxHeartbeats 1600000 in
theorem specBiteOnce_no (p : Nat → Int) (cs : Array Value) (g : Gt) (h : Int) (w : World) (hp : Pv p cs) (hs : g.ok) (h0 : ¬ chC p g h = 0) :
    Calls Try.prog 82 #[.agg cs, .agg #[.int .i8 g.x, .int .i8 g.y, .int .i8 g.u, .int .i8 g.v, .int .i16 g.rope, .int .i16 g.eats, .int .i8 g.likes], .int .i64 h] w fun e w' => e = .returned (.tuple #[.agg zP, .agg #[.int .i8 0, .int .i8 0, .int .i8 0, .int .i8 0, .int .i16 0, .int .i16 0, .int .i8 0], .int .i64 0, .int .i64 (chC p g h)]) ∧ Below w.heap.size w w' := by
  have hsz := hp.size
  refine enter3 Try.func82 rfl rfl rfl (Own.start w) ?_
  repeat' (first
    | (refine s_g ?_; first
      | (refine s_k 0 rfl ?_; refine s_val rfl rfl rfl (r_move rfl rfl) ?_)
      | (refine s_k 8 rfl ?_; first | (refine' s_val rfl rfl rfl (r_ldv rfl rfl ?qm ?qv) ?_; (case qm => (exact zMm)); (case qv => (exact zLe))) | (refine' s_val rfl rfl rfl (r_ldo rfl rfl ?qw (by simp) ?qv) ?_; (case qw => assumption); (case qv => (exact zLe))))
      | (refine s_k 1 rfl ?_; refine s_val rfl rfl rfl (r_assign rfl rfl) ?_)
      | (refine s_k 13 rfl ?_; refine s_val rfl rfl rfl (r_neq rfl rfl rfl) ?_)
      | (refine s_k 35 rfl ?_; (refine s_call Try.func182 (by kernel_rfl) rfl rfl rfl rfl rfl rfl (fun w hL => l02Asked_any p cs _ _ _ _ g h _ hp (hL.at_ m3) (hL.at_ m2) hs) ?_))
      | (refine s_k 4 rfl ?_; first | refine s_boxA rfl rfl rfl rfl rfl fun blk => ?_ | refine s_box1 rfl rfl rfl rfl rfl rfl fun blk => ?_)
      | (refine s_k 9 rfl ?_; (first | refine s_st1 tb rfl rfl rfl rfl rfl rfl rfl rfl ?_ | refine s_stA tb rfl rfl rfl rfl (by first | rfl | assumption | (apply Pv.size; assumption)) rfl rfl ?_); (first | refine' st0 ?qs ?_ | refine' st1 ?qs ?_ | refine' st2 ?qs ?_ | refine' st3 ?qs ?_ | refine' st4 ?qs ?_ | refine' st5 ?qs ?_ | refine' st6 ?qs ?_ | refine' st7 ?qs ?_ | refine' st8 ?qs ?_ | refine' st9 ?qs ?_ | refine' st10 ?qs ?_ | refine' st11 ?qs ?_); (case qs => (first | exact set_whole (vs := #[.int .i8 0, .int .i8 0, .int .i8 0, .int .i8 0, .int .i16 0, .int .i16 0, .int .i8 0]) rfl (by simp [Value.oneCell']) | exact zSet)))
      | (refine s_k 3 rfl ?_; first | refine s_allocA (t := 34) rfl zImplPas rfl rfl rfl fun blk => ?_ | refine s_allocA (t := 103) rfl zImplGoat0 rfl rfl rfl fun blk => ?_ | refine s_allocA (t := 49) rfl zImplSpot rfl rfl rfl fun blk => ?_)
      | (refine s_k 34 rfl ?_; refine s_val rfl rfl rfl (r_extractL rfl rfl rfl) ?_)
      | (refine s_k 5 rfl ?_; first | refine s_val rfl rfl rfl (r_build rfl rfl (fun w => bPas0 w)) ?_ | refine s_val rfl rfl rfl (r_build rfl rfl (fun w => bGoat0 w)) ?_)
      | refine s_nil ?_)
    | (refine c_g ?_; first | refine c_seq ?_ | refine c_region ?_ | (refine c_gc ?_; first | refine c_cond1 rfl zTr ?_ | refine c_cond0 rfl zTr ?_ | refine z_condd1 rfl ?_ | refine z_condd0 rfl ?_ | refine z_conddn1 rfl ?_ | refine z_conddn0 rfl ?_ | refine c_condd rfl (fun hc => ?_) (fun hc => ?_) | refine c_conddn rfl (fun hc => ?_) (fun hc => ?_) | refine c_condn rfl (fun hc => ?_) (fun hc => ?_) | refine c_cond rfl (fun hc => ?_) (fun hc => ?_)) | refine c_block ?_ | refine c_skip ?_ | refine c_exit ?_ | refine c_ret ?_)
    | (refine e_g ?_; first | refine e_then ?_ | refine e_blkn ?_ | refine e_thenx ?_ | refine e_thenr ?_ | refine e_blkr ?_ | refine e_blkx ?_ | refine e_blky rfl ?_)
    | (refine e_ret4 (by simp) rfl (re_cell tb rfl m1 rfl rfl) (re_cell tb rfl m0 rfl rfl) (re_tmp rfl) (re_tmp rfl) fun w hL => ⟨rfl, hL.toBelow⟩))
set_option maxRecDepth 100000 in
set_option maxHeartbeats 1600000 in
theorem specBiteOnce_ok (p : Nat → Int) (cs c' : Array Value) (g : Gt) (h : Int) (w : World) (hp : Pv p cs) (hs : g.ok) (h0 : chC p g h = 0) (hc' : Pv (bitP p g h) c') :
    Calls Try.prog 82 #[.agg cs, .agg #[.int .i8 g.x, .int .i8 g.y, .int .i8 g.u, .int .i8 g.v, .int .i16 g.rope, .int .i16 g.eats, .int .i8 g.likes], .int .i64 h] w fun e w' => e = .returned (.tuple #[.agg c', .agg #[.int .i8 (bitG p g h).x, .int .i8 (bitG p g h).y, .int .i8 (bitG p g h).u, .int .i8 (bitG p g h).v, .int .i16 (bitG p g h).rope, .int .i16 (bitG p g h).eats, .int .i8 (bitG p g h).likes], .int .i64 (bitM p g h), .int .i64 0]) ∧ Below w.heap.size w w' := by
  have hsz := hp.size
  have hsz' := hc'.size
  obtain ⟨hon, hh, hh2⟩ := chC0 hs h0
  have hbite := fun w => l02Bite_any p cs c' g h w hp hon (by omega) hc'
  refine enter3 Try.func82 rfl rfl rfl (Own.start w) ?_
  repeat' (first
    | (refine s_g ?_; first
      | (refine s_k 0 rfl ?_; refine s_val rfl rfl rfl (r_move rfl rfl) ?_)
      | (refine s_k 8 rfl ?_; first | (refine' s_val rfl rfl rfl (r_ldv rfl rfl ?qm ?qv) ?_; (case qm => (exact zMm)); (case qv => (exact zLe))) | (refine' s_val rfl rfl rfl (r_ldo rfl rfl ?qw (by simp) ?qv) ?_; (case qw => assumption); (case qv => (exact zLe))))
      | (refine s_k 1 rfl ?_; refine s_val rfl rfl rfl (r_assign rfl rfl) ?_)
      | (refine s_k 13 rfl ?_; refine s_val rfl rfl rfl (r_neq rfl rfl rfl) ?_)
      | (refine s_k 35 rfl ?_; first | (refine s_call Try.func182 (by kernel_rfl) rfl rfl rfl rfl rfl rfl (fun w hL => (by have q := l02Asked_any p cs _ _ _ _ g h w hp (hL.at_ m3) (hL.at_ m2) hs; rw [h0] at q; exact q)) ?_) | (refine s_call Try.func183 (by kernel_rfl) rfl rfl rfl rfl rfl rfl (fun w hL => hbite w) ?_))
      | (refine s_k 4 rfl ?_; first | refine s_boxA rfl rfl rfl rfl rfl fun blk => ?_ | refine s_box1 rfl rfl rfl rfl rfl rfl fun blk => ?_)
      | (refine s_k 9 rfl ?_; (first | refine s_st1 tb rfl rfl rfl rfl rfl rfl rfl rfl ?_ | refine s_stA tb rfl rfl rfl rfl (by first | rfl | assumption | (apply Pv.size; assumption)) rfl rfl ?_); (first | refine' st0 ?qs ?_ | refine' st1 ?qs ?_ | refine' st2 ?qs ?_ | refine' st3 ?qs ?_ | refine' st4 ?qs ?_ | refine' st5 ?qs ?_ | refine' st6 ?qs ?_ | refine' st7 ?qs ?_ | refine' st8 ?qs ?_ | refine' st9 ?qs ?_ | refine' st10 ?qs ?_ | refine' st11 ?qs ?_); (case qs => (first | exact setP hc' (by first | rfl | assumption) | exact set_whole (vs := #[.int .i8 (bitG p g h).x, .int .i8 (bitG p g h).y, .int .i8 (bitG p g h).u, .int .i8 (bitG p g h).v, .int .i16 (bitG p g h).rope, .int .i16 (bitG p g h).eats, .int .i8 (bitG p g h).likes]) rfl (by simp [Value.oneCell']) | exact zSet)))
      | (refine s_k 3 rfl ?_; first | refine s_allocA (t := 34) rfl zImplPas rfl rfl rfl fun blk => ?_ | refine s_allocA (t := 103) rfl zImplGoat0 rfl rfl rfl fun blk => ?_ | refine s_allocA (t := 49) rfl zImplSpot rfl rfl rfl fun blk => ?_)
      | (refine s_k 34 rfl ?_; refine s_val rfl rfl rfl (r_extractL rfl rfl rfl) ?_)
      | (refine s_k 5 rfl ?_; first | refine s_val rfl rfl rfl (r_build rfl rfl (fun w => bPas0 w)) ?_ | refine s_val rfl rfl rfl (r_build rfl rfl (fun w => bGoat0 w)) ?_)
      | refine s_nil ?_)
    | (refine c_g ?_; first | refine c_seq ?_ | refine c_region ?_ | (refine c_gc ?_; first | refine c_cond1 rfl zTr ?_ | refine c_cond0 rfl zTr ?_ | refine z_condd1 rfl ?_ | refine z_condd0 rfl ?_ | refine z_conddn1 rfl ?_ | refine z_conddn0 rfl ?_ | refine c_condd rfl (fun hc => ?_) (fun hc => ?_) | refine c_conddn rfl (fun hc => ?_) (fun hc => ?_) | refine c_condn rfl (fun hc => ?_) (fun hc => ?_) | refine c_cond rfl (fun hc => ?_) (fun hc => ?_)) | refine c_block ?_ | refine c_skip ?_ | refine c_exit ?_ | refine c_ret ?_)
    | (refine e_g ?_; first | refine e_then ?_ | refine e_blkn ?_ | refine e_thenx ?_ | refine e_thenr ?_ | refine e_blkr ?_ | refine e_blkx ?_ | refine e_blky rfl ?_)
    | (refine z_g ?_; first
      | (refine z_k 0 rfl ?_; (refine' z_val rfl rfl rfl ?hr ?hp ?_; (case hr => exact fun N hN => r_move rfl rfl); (case hp => exact rfl)))
      | (refine z_k 8 rfl ?_; first | (refine' z_val rfl rfl rfl ?hr ?hp ?_; (case hr => (intro N hN; (refine' r_ldv rfl rfl ?qm ?qv; (case qm => (first | exact List.mem_append_right _ m0 | exact List.mem_append_right _ m1 | exact List.mem_append_right _ m2 | exact List.mem_append_right _ m3 | exact List.mem_append_right _ m4 | exact List.mem_append_right _ m5 | exact List.mem_append_right _ m6 | exact List.mem_append_right _ m7 | exact List.mem_append_right _ m8 | exact List.mem_append_right _ m9 | exact List.mem_append_right _ m10 | exact List.mem_append_right _ m11)); (case qv => (exact zLe))))); (case hp => exact rfl)) | (refine' z_val rfl rfl rfl ?hr ?hp ?_; (case hr => (intro N hN; (refine' r_ldo rfl rfl ?qw (by simp) ?qv; (case qw => assumption); (case qv => (exact zLe))))); (case hp => exact rfl)))
      | (refine z_k 1 rfl ?_; (refine' z_val rfl rfl rfl ?hr ?hp ?_; (case hr => exact fun N hN => r_assign rfl rfl); (case hp => exact rfl)))
      | (refine z_k 13 rfl ?_; (refine' z_val rfl rfl rfl ?hr ?hp ?_; (case hr => exact fun N hN => r_neq rfl rfl rfl); (case hp => exact rfl)))
      | (refine z_k 9 rfl ?_; first | (refine' z_put (i := 0) tb rfl rfl rfl rfl rfl rfl rfl (by first | rfl | assumption | (apply Pv.size; assumption)) rfl ?qs rfl ?hok ?hp ?_; (case qs => (first | exact setP hc' (by first | rfl | assumption) | exact set_whole (vs := #[.int .i8 (bitG p g h).x, .int .i8 (bitG p g h).y, .int .i8 (bitG p g h).u, .int .i8 (bitG p g h).v, .int .i16 (bitG p g h).rope, .int .i16 (bitG p g h).eats, .int .i8 (bitG p g h).likes]) rfl (by simp [Value.oneCell']) | exact zSet)); (case hok => (first | exact trivial | (assumption))); (case hp => exact rfl)) | (refine' z_put (i := 1) tb rfl rfl rfl rfl rfl rfl rfl (by first | rfl | assumption | (apply Pv.size; assumption)) rfl ?qs rfl ?hok ?hp ?_; (case qs => (first | exact setP hc' (by first | rfl | assumption) | exact set_whole (vs := #[.int .i8 (bitG p g h).x, .int .i8 (bitG p g h).y, .int .i8 (bitG p g h).u, .int .i8 (bitG p g h).v, .int .i16 (bitG p g h).rope, .int .i16 (bitG p g h).eats, .int .i8 (bitG p g h).likes]) rfl (by simp [Value.oneCell']) | exact zSet)); (case hok => (first | exact trivial | (assumption))); (case hp => exact rfl)) | (refine' z_put (i := 2) tb rfl rfl rfl rfl rfl rfl rfl (by first | rfl | assumption | (apply Pv.size; assumption)) rfl ?qs rfl ?hok ?hp ?_; (case qs => (first | exact setP hc' (by first | rfl | assumption) | exact set_whole (vs := #[.int .i8 (bitG p g h).x, .int .i8 (bitG p g h).y, .int .i8 (bitG p g h).u, .int .i8 (bitG p g h).v, .int .i16 (bitG p g h).rope, .int .i16 (bitG p g h).eats, .int .i8 (bitG p g h).likes]) rfl (by simp [Value.oneCell']) | exact zSet)); (case hok => (first | exact trivial | (assumption))); (case hp => exact rfl)) | (refine' z_put (i := 3) tb rfl rfl rfl rfl rfl rfl rfl (by first | rfl | assumption | (apply Pv.size; assumption)) rfl ?qs rfl ?hok ?hp ?_; (case qs => (first | exact setP hc' (by first | rfl | assumption) | exact set_whole (vs := #[.int .i8 (bitG p g h).x, .int .i8 (bitG p g h).y, .int .i8 (bitG p g h).u, .int .i8 (bitG p g h).v, .int .i16 (bitG p g h).rope, .int .i16 (bitG p g h).eats, .int .i8 (bitG p g h).likes]) rfl (by simp [Value.oneCell']) | exact zSet)); (case hok => (first | exact trivial | (assumption))); (case hp => exact rfl)))
      | (refine z_k 34 rfl ?_; (refine' z_val rfl rfl rfl ?hr ?hp ?_; (case hr => exact fun N hN => r_extractL rfl rfl rfl); (case hp => exact rfl)))
      | refine z_nil ?_)
    | (refine' c_drawZ2_3 (id := 5) [false, false, false, true, true, false, false] (fun _ => True) [(Sum.inl _ : CalmE.Plan (List (Nat × TypeId × Array Value))), (Sum.inl _ : CalmE.Plan (List (Nat × TypeId × Array Value))), (Sum.inl _ : CalmE.Plan (List (Nat × TypeId × Array Value))), (Sum.inr _ : CalmE.Plan (List (Nat × TypeId × Array Value))), (Sum.inr _ : CalmE.Plan (List (Nat × TypeId × Array Value))), (Sum.inl _ : CalmE.Plan (List (Nat × TypeId × Array Value))), (Sum.inl _ : CalmE.Plan (List (Nat × TypeId × Array Value)))] (by kernel_rfl) (by kernel_rfl) (by kernel_rfl) (by simp only [CalmE.Agree, and_self, true_and, and_true]) (trivial) ?_)
    | (refine e_ret4 (by simp) rfl (re_cell tb rfl m1 rfl (by first | rfl | assumption | (apply Pv.size; assumption))) (re_cell tb rfl m0 rfl rfl) (re_tmp rfl) (re_tmp rfl) fun w hL => ⟨rfl, hL.toBelow⟩))
end Go.Proofs.YtdnndidihedndaaRR
