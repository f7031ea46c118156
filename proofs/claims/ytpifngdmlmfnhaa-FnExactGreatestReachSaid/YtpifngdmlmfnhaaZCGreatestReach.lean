/- GreatestReach: the program's and the reference's return the same, for all arguments: no condition. -/
import Derived.Test.YtpifngdmlmfnhaaQC13
import Derived.Test.YtpifngdmlmfnhaaQC31
import Derived.Test.YtpifngdmlmfnhaaQC32
namespace Go.Proofs.Ytpifngdmlmfnhaa
set_option linter.unusedVariables false
set_option linter.unusedSimpArgs false
open Go.RowKit Mem Wk
attribute [local irreducible] Calls Wk.S Wk.C Wk.E Wk.X Wk.T Wk.Y Calm.wpLex CalmB.wpLex
theorem grC_idx {p : Nat → Int} {L : List Sk} {idx : Int} (h : grC p L idx = 0) : validStk p L = true ∧ ∃ i : Nat, idx = (i : Int) ∧ i < L.length := by
  unfold grC at h
  cases hv : validStk p L
  · rw [hv] at h; simp at h
  · rw [hv] at h
    refine ⟨rfl, ?_⟩
    cases hi : inB idx 0 ((L.length : Int) - 1)
    · rw [hi] at h; simp at h
    · unfold inB at hi
      simp at hi
      exact ⟨idx.toNat, by omega, by omega⟩
theorem implGreat_any (p : Nat → Int) (cs : Array Value) (v : Value) (L : List Sk) (idx : Int) (w : World) (hp : Pv p cs) (hU : Sl w 3 v (L.map Sk.cells)) (hok : ∀ s ∈ L, s.ok) (hn : L.length ≤ 1048576) :
    Calls Try.prog 19 #[.agg cs, v, .int .i64 idx] w fun e w' => e = .returned (.tuple #[.int .i64 (grV p L idx).1, .int .i64 (grV p L idx).2]) ∧ Below w.heap.size w w' := by
  by_cases h0 : grC p L idx = 0
  · obtain ⟨hv, i, rfl, hi⟩ := grC_idx h0
    exact implGreat_ok p cs v L i w hp hU hok hi h0 hv
  · exact implGreat_no p cs v L idx w hp hU hok hn h0
theorem specGreat_any (p : Nat → Int) (cs : Array Value) (v : Value) (L : List Sk) (idx : Int) (w : World) (hp : Pv p cs) (hU : Sl w 3 v (L.map Sk.cells)) (hok : ∀ s ∈ L, s.ok) (hn : L.length ≤ 1048576) :
    Calls Try.prog 16 #[.agg cs, v, .int .i64 idx] w fun e w' => e = .returned (.tuple #[.int .i64 (grV p L idx).1, .int .i64 (grV p L idx).2]) ∧ Below w.heap.size w w' := by
  by_cases h0 : grC p L idx = 0
  · obtain ⟨hv, i, rfl, hi⟩ := grC_idx h0
    exact specGreat_ok p cs v L i w hp hU hok hi h0 hv
  · exact specGreat_no p cs v L idx w hp hU hok hn h0
set_option maxRecDepth 100000 in
set_option maxHeartbeats 800000 in
theorem FnExactGreatestReach_walk (p0 : Nat → Int) (c0 : Array Value) (v1 : Value) (l1 : List Sk) (a2 : Int) (w : World) (hp0 : Pv p0 c0) (hl1 : Sl w 3 v1 (l1.map Sk.cells)) (ho1 : ∀ s ∈ l1, s.ok) (ha2 : -9223372036854775808 ≤ a2) (hb2 : a2 ≤ 9223372036854775807) :
    Calls Try.prog 3 #[.agg c0, v1, .int .i64 a2] w fun e w' => e = .returned (.bool true) ∧ Below w.heap.size w w' := by
  have hsz := hp0.size
  by_cases hn1 : l1.length ≤ 1048576
  case neg =>
    refine enter3 Try.func3 rfl rfl rfl (Own.start w) ?_
    repeat' (first
      | (refine s_g ?_; first
      | (refine s_gd rfl ?_; first | refine s_gd1 rfl rfl zTr ?_ | refine s_gd0 rfl rfl rfl zTr ?_ | refine s_gd00 rfl rfl zTr ?_ | refine s_gp1 rfl rfl rfl (fun hc => ?_) (fun hc => ?_) | refine s_gp0 rfl rfl rfl (fun hc => ?_) (fun hc => ?_) | refine s_gnp1 rfl rfl rfl (fun hc => ?_) (fun hc => ?_) | refine s_gnp0 rfl rfl rfl (fun hc => ?_) (fun hc => ?_) | refine s_gb1 rfl rfl rfl (fun hc => ?_) (fun hc => ?_) | refine s_gb0 rfl rfl rfl (fun hc => ?_) (fun hc => ?_) | refine s_gnb1 rfl rfl rfl (fun hc => ?_) (fun hc => ?_) | refine s_gnb0 rfl rfl rfl (fun hc => ?_) (fun hc => ?_))
      | (refine s_k 0 rfl ?_; refine s_val rfl rfl rfl (r_move rfl rfl) ?_)
      | (refine s_k 8 rfl ?_; first | (refine' s_val rfl rfl rfl (r_ldv rfl rfl ?qm ?qv) ?_; (case qm => (exact zMm)); (case qv => (exact zLe))) | (refine' s_val rfl rfl rfl (r_ldo rfl rfl ?qw (by simp) ?qv) ?_; (case qw => assumption); (case qv => (exact zLe))))
      | (refine s_k 1 rfl ?_; refine s_val rfl rfl rfl (r_assign rfl rfl) ?_)
      | (refine s_k 13 rfl ?_; first | refine s_val rfl rfl rfl (r_lss rfl rfl rfl) ?_ | refine s_val rfl rfl rfl (r_neq rfl rfl rfl) ?_)
      | (refine s_k 35 rfl ?_; (refine s_call Try.func15 (by kernel_rfl) rfl rfl rfl rfl rfl rfl (fun w hL => sz_gt (szStakeS_any v1 l1 1048576 _ (hl1.below hL.toBelow) (by decide) (by decide)) hn1) ?_))
      | (refine s_k 14 rfl ?_; refine s_val rfl rfl rfl (r_not rfl rfl) ?_)
      | (refine s_k 2 rfl ?_; first | refine s_val rfl rfl rfl (r_pick1 rfl rfl zTr rfl) ?_ | refine s_val rfl rfl rfl (r_pick0 rfl rfl zTr rfl) ?_)
      | (refine s_k 4 rfl ?_; first | refine s_boxA rfl rfl rfl rfl rfl fun blk => ?_ | refine s_box1 rfl rfl rfl rfl rfl rfl fun blk => ?_)
      | (refine s_k 34 rfl ?_; refine s_val rfl rfl rfl (r_extractL rfl rfl rfl) ?_)
      | refine s_nil ?_)
      | (refine c_g ?_; first | refine c_seq ?_ | refine c_region ?_ | (refine c_gc ?_; first | refine c_cond1 rfl zTr ?_ | refine c_cond0 rfl zTr ?_ | refine z_condd1 rfl ?_ | refine z_condd0 rfl ?_ | refine z_conddn1 rfl ?_ | refine z_conddn0 rfl ?_ | refine c_condd rfl (fun hc => ?_) (fun hc => ?_) | refine c_conddn rfl (fun hc => ?_) (fun hc => ?_) | refine c_condn rfl (fun hc => ?_) (fun hc => ?_) | refine c_cond rfl (fun hc => ?_) (fun hc => ?_)) | refine c_block ?_ | refine c_skip ?_ | refine c_exit ?_ | refine c_ret ?_)
      | (refine e_g ?_; first | refine e_then ?_ | refine e_blkn ?_ | refine e_thenx ?_ | refine e_thenr ?_ | refine e_blkr ?_ | refine e_blkx ?_ | refine e_blky rfl ?_)
      | (refine e_ret1 (by simp) rfl (re_tmp rfl) fun w hL => ⟨rfl, hL.toBelow⟩))
  case pos =>
    have himpl := fun (w : World) v hU => implGreat_any p0 c0 v l1 a2 w hp0 hU ho1 hn1
    have hspec := fun (w : World) v hU => specGreat_any p0 c0 v l1 a2 w hp0 hU ho1 hn1
    generalize (grV p0 l1 a2).1 = n1 at *
    generalize (grV p0 l1 a2).2 = n2 at *
    have e1 : n1 = n1 := rfl
    have e2 : n2 = n2 := rfl
    obtain ⟨A1, cap1, rfl, _, _, hS1⟩ := hl1.open
    rw [List.length_map] at hl1 ⊢
    refine enter3 Try.func3 rfl rfl rfl (Own.start w) ?_
    repeat' (first
      | (refine s_g ?_; first
      | (refine s_gd rfl ?_; first | refine s_gd1 rfl rfl zTr ?_ | refine s_gd0 rfl rfl rfl zTr ?_ | refine s_gd00 rfl rfl zTr ?_ | refine s_gp1 rfl rfl rfl (fun hc => ?_) (fun hc => ?_) | refine s_gp0 rfl rfl rfl (fun hc => ?_) (fun hc => ?_) | refine s_gnp1 rfl rfl rfl (fun hc => ?_) (fun hc => ?_) | refine s_gnp0 rfl rfl rfl (fun hc => ?_) (fun hc => ?_) | refine s_gb1 rfl rfl rfl (fun hc => ?_) (fun hc => ?_) | refine s_gb0 rfl rfl rfl (fun hc => ?_) (fun hc => ?_) | refine s_gnb1 rfl rfl rfl (fun hc => ?_) (fun hc => ?_) | refine s_gnb0 rfl rfl rfl (fun hc => ?_) (fun hc => ?_))
      | (refine s_k 0 rfl ?_; refine s_val rfl rfl rfl (r_move rfl rfl) ?_)
      | (refine s_k 8 rfl ?_; first | (refine' s_val rfl rfl rfl (r_ldv rfl rfl ?qm ?qv) ?_; (case qm => (exact zMm)); (case qv => (exact zLe))) | (refine' s_val rfl rfl rfl (r_ldo rfl rfl ?qw (by simp) ?qv) ?_; (case qw => assumption); (case qv => (exact zLe))))
      | (refine s_k 1 rfl ?_; refine s_val rfl rfl rfl (r_assign rfl rfl) ?_)
      | (refine s_k 13 rfl ?_; first | refine s_val rfl rfl rfl (r_lss rfl rfl rfl) ?_ | refine s_val rfl rfl rfl (r_neq rfl rfl rfl) ?_)
      | (refine s_k 35 rfl ?_; first | (refine s_call Try.func15 (by kernel_rfl) rfl rfl rfl rfl rfl rfl (fun w hL => sz_le (szStakeS_any _ l1 1048576 _ (hl1.below hL.toBelow) (by decide) (by decide)) hn1) ?_) | (refine s_call Try.func17 (by kernel_rfl) rfl rfl rfl rfl rfl rfl (fun w hL => toPasture_any p0 c0 _ hp0) ?_) | (refine s_call Try.func16 (by kernel_rfl) rfl rfl rfl rfl rfl rfl (fun w hL => hspec w _ (hAq.toSl (lenSk l1) (by omega) (hL.at_ m0))) ?_) | (refine s_call Try.func19 (by kernel_rfl) rfl rfl rfl rfl rfl rfl (fun w hL => himpl w _ (hAq.toSl (lenSk l1) (by omega) (hL.at_ m0))) ?_) | (refine s_call Try.func20 (by kernel_rfl) rfl rfl rfl rfl rfl rfl (fun w hL => eqStakeS_same _ _ l1 _ (hAp.toSl (lenSk l1) (by omega) (hL.at_ m1)) (hAq.toSl (lenSk l1) (by omega) (hL.at_ m0)) hn1) ?_) | (refine s_callN Try.func18 (by kernel_rfl) rfl rfl rfl rfl rfl rfl (fun w hL => toStakeS_new l1 A1 cap1 w (hS1.at_ hL) hn1) fun g k cap cur hA => ?_; (try have hAp := hAq); have hAq := hA))
      | (refine s_k 14 rfl ?_; refine s_val rfl rfl rfl (r_not rfl rfl) ?_)
      | (refine s_k 2 rfl ?_; first | refine s_val rfl rfl rfl (r_pick1 rfl rfl zTr rfl) ?_ | refine s_val rfl rfl rfl (r_pick0 rfl rfl zTr rfl) ?_)
      | (refine s_k 4 rfl ?_; first | refine s_boxA rfl rfl rfl rfl rfl fun blk => ?_ | refine s_box1 rfl rfl rfl rfl rfl rfl fun blk => ?_)
      | (refine s_k 34 rfl ?_; refine s_val rfl rfl rfl (r_extractL rfl rfl rfl) ?_)
      | refine s_nil ?_)
      | (refine c_g ?_; first | refine c_seq ?_ | refine c_region ?_ | (refine c_gc ?_; first | refine c_cond1 rfl zTr ?_ | refine c_cond0 rfl zTr ?_ | refine z_condd1 rfl ?_ | refine z_condd0 rfl ?_ | refine z_conddn1 rfl ?_ | refine z_conddn0 rfl ?_ | refine c_condd rfl (fun hc => ?_) (fun hc => ?_) | refine c_conddn rfl (fun hc => ?_) (fun hc => ?_) | refine c_condn rfl (fun hc => ?_) (fun hc => ?_) | refine c_cond rfl (fun hc => ?_) (fun hc => ?_)) | refine c_block ?_ | refine c_skip ?_ | refine c_exit ?_ | refine c_ret ?_)
      | (refine e_g ?_; first | refine e_then ?_ | refine e_blkn ?_ | refine e_thenx ?_ | refine e_thenr ?_ | refine e_blkr ?_ | refine e_blkx ?_ | refine e_blky rfl ?_)
      | (refine e_ret1 (by simp) rfl (re_tmp rfl) fun w hL => ⟨rfl, hL.toBelow⟩))
namespace FnExactGreatestReachRow
open Go.ChangeShapes Go.WideShapes Go.ChangeAt Go.RowKit
theorem own : ownKnob Try.prog.godebug = none := by kernel_rfl
theorem laidOut : laidOutB Try.prog = true := by kernel_rfl
set_option maxRecDepth 100000 in
set_option maxHeartbeats 1000000 in
theorem lifted (os : Os) (started : os.Started) (H : Type) (enc : TypeId × Value → H) :
    ReturnsInHanded {} Try.checked os 3 .any (Rows.fnExactGreatestReachSpec.pre6 enc Try.prog Try.f3 Rows.fnExactGreatestReachRow.domain false) (Rows.fnExactGreatestReachSpec.post enc Try.prog Try.f3 false true false false) := by
  refine returnsInHanded_of_change (C := Try.checked) own started (by kernel_rfl) Try.func3
    (ChangeSpec.witness6 (enc := enc) (C := Try.checked) false ⟨#[], #[.agg zP, .slice none 0 0, .int .i64 0], []⟩ 8 (by kernel_rfl) (by kernel_rfl) (by kernel_rfl) (by kernel_rfl)) ?_
  intro W base args ds gs before hval0 hW hcnd _
  have hval : ∀ (j : Nat) t v, Try.f3.params[j]? = some t → args[j]? = some v → Value.okWide Try.prog W .any base t v := hval0
  have hW' := hW
  obtain ⟨p, q, hA0, hV, rfl, hfz, hnd⟩ := hW
  have hA : DataW.TrodAll enc Try.prog W 0 (fun _ => true) true Try.f3.params.toList args.toList ds p := hA0
  rw [Try.params3] at hA hval
  obtain ⟨v0, vs0, d0, ds0, p0, q0, hargs, rfl, rfl, h0, r0⟩ := trodAll_cons hA
  obtain ⟨v1, vs1, d1, ds1, p1, q1, rfl, rfl, rfl, h1, r1⟩ := trodAll_cons r0
  obtain ⟨v2, vs2, d2, ds2, p2, q2, rfl, rfl, rfl, h2, r2⟩ := trodAll_cons r1
  obtain ⟨rfl, rfl, rfl⟩ := trodAll_nil r2
  obtain rfl : args = #[v0, v1, v2] := by cases args; simp_all
  obtain ⟨rfl, rfl⟩ := trodVars_none hV
  have k0 := h0
  have lt0 : ∀ x ∈ p0, x.block < W.heap.size := by obtain ⟨m, hm⟩ := k0; exact DataW.trod_lt m _ _ _ hm
  have k1 := h1
  have lt1 : ∀ x ∈ p1, x.block < W.heap.size := by obtain ⟨m, hm⟩ := k1; exact DataW.trod_lt m _ _ _ hm
  have k2 := h2
  have lt2 : ∀ x ∈ p2, x.block < W.heap.size := by obtain ⟨m, hm⟩ := k2; exact DataW.trod_lt m _ _ _ hm
  obtain ⟨c0, rfl, hs0, hf0⟩ := open_flat (n := 5) (ks := pasK) (by kernel_rfl) (by kernel_rfl) (by kernel_rfl) (hval 0 _ v0 rfl rfl) h0
  obtain ⟨p0', hp0⟩ := pv_of_flat hs0 hf0
  obtain ⟨xs1, hl1, hf1⟩ := open_flat_slice (n := 5) (ks := skK) Try.underlying30 (by kernel_rfl) (by kernel_rfl) (by decide) (hval 1 _ v1 rfl rfl) h1
  obtain ⟨l1, rfl, ho1⟩ := list_of_cells (f := Sk.cells) (p := Sk.ok) xs1 (fun c hc => by
    obtain ⟨hcl, _⟩ := sl_elem hl1 c hc
    exact sk_of_flat hcl (hf1 c hc))
  obtain ⟨a2, rfl, rfl, rfl, wf2⟩ := open_int Try.underlying2 (hval 2 _ v2 rfl rfl) h2
  clear hA0 hval0
  refine (FnExactGreatestReach_walk p0' c0 v1 l1 a2 W hp0 hl1 ho1 (wf_i64 wf2).1 (wf_i64 wf2).2).mono fun e W' ⟨he, bel⟩ => ?_
  subst he
  exact ⟨_, rfl, _, _, _, [], _, [], hW', trodAll_mk1 (shut_bool Try.underlying4 _), (trodAll_cons_mk (Below.trod laidOut (by kernel_rfl) (of_decide_eq_true (by kernel_rfl)) k0 bel lt0) (trodAll_cons_mk (Below.trod laidOut (by kernel_rfl) (of_decide_eq_true (by kernel_rfl)) k1 bel lt1) (trodAll_cons_mk (Below.trod laidOut (by kernel_rfl) (of_decide_eq_true (by kernel_rfl)) k2 bel lt2) trodAll_mk0))), rfl, bel.frame _, fun h => by cases h⟩
theorem closed : joinedFacts Try.prog 3 Try.f3 Rows.fnExactGreatestReachSpec Rows.fnExactGreatestReachRow = true := by
  unfold joinedFacts
  rw [prog_mayEnter, prog_lifts, prog_make]
  show (_ : Bool) = true
  kernel_rfl
theorem over : Rows.fnExactGreatestReachRow.holds Try.pinned (OpenSpec.ofChange Rows.fnExactGreatestReachSpec) :=
  OpenClaim.holds_of_wide 3 Try.f3 rfl rfl rfl rfl rfl rfl rfl ⟨rfl, rfl, rfl, rfl, rfl⟩ rfl rfl rfl rfl rfl (by kernel_rfl) Try.func3 closed
    (of_decide_eq_true (by kernel_rfl)) (by unfold Func.isWrapper; first | (rw [if_pos (by decide +kernel)]; kernel_rfl) | (rw [if_neg (by decide +kernel)]; exact ⟨rfl, rfl⟩))
    (fun os started H enc _ => lifted os started H enc)
end FnExactGreatestReachRow
theorem fnExactGreatestReach_holds : Rows.FnExactGreatestReachSaid := FnExactGreatestReachRow.over
#print axioms fnExactGreatestReach_holds
end Go.Proofs.Ytpifngdmlmfnhaa
