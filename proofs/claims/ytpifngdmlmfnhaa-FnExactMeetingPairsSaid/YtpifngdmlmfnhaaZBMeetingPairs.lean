/- MeetingPairs: the program's and the reference's return the same, for all arguments: no condition. -/
import Derived.Test.YtpifngdmlmfnhaaQB15
import Derived.Test.YtpifngdmlmfnhaaQB32
import Derived.Test.YtpifngdmlmfnhaaQB34
import Derived.Test.YtpifngdmlmfnhaaQB35
import Derived.Test.YtpifngdmlmfnhaaQB36
import Derived.Test.YtpifngdmlmfnhaaQB38
namespace Go.Proofs.Ytpifngdmlmfnhaa
set_option linter.unusedVariables false
set_option linter.unusedSimpArgs false
open Go.RowKit Mem Wk
attribute [local irreducible] Calls Wk.S Wk.C Wk.E Wk.X Wk.T Wk.Y Calm.wpLex CalmB.wpLex
set_option maxRecDepth 100000 in
set_option maxHeartbeats 4000000 in
theorem FnExactMeetingPairs_walk (p0 : Nat → Int) (c0 : Array Value) (v1 : Value) (l1 : List Sk) (w : World) (hp0 : Pv p0 c0) (hl1 : Sl w 3 v1 (l1.map Sk.cells)) (ho1 : ∀ s ∈ l1, s.ok) :
    Calls Try.prog 6 #[.agg c0, v1] w fun e w' => e = .returned (.bool true) ∧ Below w.heap.size w w' := by
  have hsz := hp0.size
  by_cases hn1 : l1.length ≤ 1048576
  case neg =>
    refine enter2 Try.func6 rfl rfl rfl (Own.start w) ?_
    repeat' (first
      | (refine s_g ?_; first
      | (refine s_gd rfl ?_; first | refine s_gd1 rfl rfl zTr ?_ | refine s_gd0 rfl rfl rfl zTr ?_ | refine s_gd00 rfl rfl zTr ?_ | refine s_gp1 rfl rfl rfl (fun hc => ?_) (fun hc => ?_) | refine s_gp0 rfl rfl rfl (fun hc => ?_) (fun hc => ?_) | refine s_gnp1 rfl rfl rfl (fun hc => ?_) (fun hc => ?_) | refine s_gnp0 rfl rfl rfl (fun hc => ?_) (fun hc => ?_) | refine s_gb1 rfl rfl rfl (fun hc => ?_) (fun hc => ?_) | refine s_gb0 rfl rfl rfl (fun hc => ?_) (fun hc => ?_) | refine s_gnb1 rfl rfl rfl (fun hc => ?_) (fun hc => ?_) | refine s_gnb0 rfl rfl rfl (fun hc => ?_) (fun hc => ?_))
      | (refine s_k 0 rfl ?_; refine s_val rfl rfl rfl (r_move rfl rfl) ?_)
      | (refine s_k 8 rfl ?_; first | (refine' s_val rfl rfl rfl (r_ldv rfl rfl ?qm ?qv) ?_; (case qm => (exact zMm)); (case qv => (exact zLe))) | (refine' s_val rfl rfl rfl (r_ldo rfl rfl ?qw (by simp) ?qv) ?_; (case qw => assumption); (case qv => (exact zLe))))
      | (refine s_k 1 rfl ?_; refine s_val rfl rfl rfl (r_assign rfl rfl) ?_)
      | (refine s_k 13 rfl ?_; first | refine s_val rfl rfl rfl (r_lss rfl rfl rfl) ?_ | refine s_val rfl rfl rfl (r_neq rfl rfl rfl) ?_)
      | (refine s_k 35 rfl ?_; (refine s_call Try.func15 (by kernel_rfl) rfl rfl rfl rfl rfl rfl (fun w hL => sz_gt (szStakeS_any v1 l1 1048576 _ (hl1.below hL.toBelow) (by decide) (by decide)) hn1) ?_))
      | (refine s_k 14 rfl ?_; refine s_val rfl rfl rfl (r_not rfl rfl) ?_)
      | (refine s_k 2 rfl ?_; first | refine s_val rfl rfl rfl (r_pick1 rfl rfl zTr rfl) ?_ | refine s_val rfl rfl rfl (r_pick0 rfl rfl zTr rfl) ?_)
      | (refine s_k 4 rfl ?_; first | refine s_boxA rfl rfl rfl rfl rfl fun blk => ?_ | refine s_box1 rfl rfl rfl rfl rfl rfl fun blk => ?_)
      | (refine s_k 34 rfl ?_; refine s_val rfl rfl rfl (r_extractL rfl rfl rfl) ?_)
      | refine s_nil ?_)
      | (refine c_g ?_; first | refine c_seq ?_ | refine c_region ?_ | (refine c_gc ?_; first | refine c_cond1 rfl zTr ?_ | refine c_cond0 rfl zTr ?_ | refine z_condd1 rfl ?_ | refine z_condd0 rfl ?_ | refine z_conddn1 rfl ?_ | refine z_conddn0 rfl ?_ | refine c_condd rfl (fun hc => ?_) (fun hc => ?_) | refine c_conddn rfl (fun hc => ?_) (fun hc => ?_) | refine c_condn rfl (fun hc => ?_) (fun hc => ?_) | refine c_cond rfl (fun hc => ?_) (fun hc => ?_)) | refine c_block ?_ | refine c_skip ?_ | refine c_exit ?_ | refine c_ret ?_)
      | (refine e_g ?_; first | refine e_then ?_ | refine e_blkn ?_ | refine e_thenx ?_ | refine e_thenr ?_ | refine e_blkr ?_ | refine e_blkx ?_ | refine e_blky rfl ?_)
      | (refine e_ret1 (by simp) rfl (re_tmp rfl) fun w hL => ⟨rfl, hL.toBelow⟩))
  case pos =>
  obtain ⟨A1, cap1, rfl, _, _, hS1⟩ := hl1.open
  rw [List.length_map] at hl1 ⊢
  have h01 : ((1 : Nat) : Int) = 1 := rfl
  cases hvv : validStk p0 l1
  case true =>
    have hspec := fun w g n cap cur hA hg => specMeetingPairs_new p0 c0 l1 g n cap cur w hp0 ho1 hvv hA hg
    have himpl := fun w g n cap cur hA hg => implMeetingPairs_new p0 c0 l1 g n cap cur w hp0 ho1 hvv hA hg
    have hnE : (mpL p0 l1).length ≤ 1048576 := by have := mpL_len p0 l1 (vs_get hvv).2.2.1; omega
    generalize mpL p0 l1 = E at *
    refine enter2 Try.func6 rfl rfl rfl (Own.start w) ?_
    repeat' (first
      | (refine s_g ?_; first
      | (refine s_gd rfl ?_; first | refine s_gd1 rfl rfl zTr ?_ | refine s_gd0 rfl rfl rfl zTr ?_ | refine s_gd00 rfl rfl zTr ?_ | refine s_gp1 rfl rfl rfl (fun hc => ?_) (fun hc => ?_) | refine s_gp0 rfl rfl rfl (fun hc => ?_) (fun hc => ?_) | refine s_gnp1 rfl rfl rfl (fun hc => ?_) (fun hc => ?_) | refine s_gnp0 rfl rfl rfl (fun hc => ?_) (fun hc => ?_) | refine s_gb1 rfl rfl rfl (fun hc => ?_) (fun hc => ?_) | refine s_gb0 rfl rfl rfl (fun hc => ?_) (fun hc => ?_) | refine s_gnb1 rfl rfl rfl (fun hc => ?_) (fun hc => ?_) | refine s_gnb0 rfl rfl rfl (fun hc => ?_) (fun hc => ?_))
      | (refine s_k 0 rfl ?_; refine s_val rfl rfl rfl (r_move rfl rfl) ?_)
      | (refine s_k 8 rfl ?_; first | (refine' s_val rfl rfl rfl (r_ldv rfl rfl ?qm ?qv) ?_; (case qm => (exact zMm)); (case qv => (exact zLe))) | (refine' s_val rfl rfl rfl (r_ldo rfl rfl ?qw (by simp) ?qv) ?_; (case qw => assumption); (case qv => (exact zLe))))
      | (refine s_k 1 rfl ?_; refine s_val rfl rfl rfl (r_assign rfl rfl) ?_)
      | (refine s_k 13 rfl ?_; first | refine s_val rfl rfl rfl (r_lss rfl rfl rfl) ?_ | refine s_val rfl rfl rfl (r_neq rfl rfl rfl) ?_)
      | (refine s_k 35 rfl ?_; first | (refine s_call Try.func15 (by kernel_rfl) rfl rfl rfl rfl rfl rfl (fun w hL => sz_le (szStakeS_any _ l1 1048576 _ (hl1.below hL.toBelow) (by decide) (by decide)) hn1) ?_) | (refine s_call Try.func17 (by kernel_rfl) rfl rfl rfl rfl rfl rfl (fun w hL => toPasture_any p0 c0 _ hp0) ?_) | (refine s_call Try.func20 (by kernel_rfl) rfl rfl rfl rfl rfl rfl (fun w hL => eqStakeS_same _ _ l1 _ (hAp.toSl (lenSk l1) (by omega) (hL.at_ m2)) (hAq.toSl (lenSk l1) (by omega) (hL.at_ m0)) hn1) ?_) | (refine s_call Try.func31 (by kernel_rfl) rfl rfl rfl rfl rfl rfl (fun w hL => eqInt64A2S_same E _ _ _ _ _ _ _ _ w hIq hIs (hL.at_ m0) (hL.at_ m2) hnE) ?_) | (refine s_call Try.func31 (by kernel_rfl) rfl rfl rfl rfl rfl rfl (fun w hL => eqInt64A2S_same E _ _ _ _ _ _ _ _ w hIq hIs (hL.at_ m1) (hL.at_ m3) hnE) ?_) | (refine s_call Try.func31 (by kernel_rfl) rfl rfl rfl rfl rfl rfl (fun w hL => eqInt64A2S_same E _ _ _ _ _ _ _ _ w hIq hIs (hL.at_ m0) (hL.at_ m5) hnE) ?_) | (refine s_call Try.func33 (by kernel_rfl) rfl rfl rfl rfl rfl rfl (fun w hL => heldInt64A2S_any _ _ _ _ _ w hpI (hL.at_ m1) hnE) ?_) | (refine s_call Try.func33 (by kernel_rfl) rfl rfl rfl rfl rfl rfl (fun w hL => heldInt64A2S_any _ _ _ _ _ w hpI (hL.at_ m3) hnE) ?_) | (refine s_callN Try.func18 (by kernel_rfl) rfl rfl rfl rfl rfl rfl (fun w hL => toStakeS_new l1 A1 cap1 w (hS1.at_ hL) hn1) fun g k cap cur hA => ?_; (try have hAp := hAq); have hAq := hA) | (refine s_callN2 Try.func29 (by kernel_rfl) rfl rfl rfl rfl rfl rfl (fun w hL => hspec w _ _ _ _ hAq (hL.at_ m0)) fun ge ni capi ci hI0 => ?_; obtain rfl := cntPr hI0; have hIs := hI0) | (refine s_callN2 Try.func30 (by kernel_rfl) rfl rfl rfl rfl rfl rfl (fun w hL => himpl w _ _ _ _ hAq (hL.at_ m0)) fun ge ni capi ci hI0 => ?_; obtain rfl := cntPr hI0; have hIq := hI0; have hIf := hI0.fit) | (refine s_callM2 Try.func24 (by kernel_rfl) rfl rfl rfl rfl rfl rfl (fun w hL hg => markStakeS_z 1 _ h01 _ _ _ _ w hAp.fit hg (by have e := hAp.count (lenSk l1) (by omega); rw [List.length_map] at e; omega) (by omega)) fun cs hpX => ?_) | (refine s_callM1 Try.func32 (by kernel_rfl) rfl rfl rfl rfl rfl rfl (fun w hL hg => markInt64A2S_any _ _ _ _ w hIf hg hnE) fun cs hpI => ?_))
      | (refine s_k 14 rfl ?_; refine s_val rfl rfl rfl (r_not rfl rfl) ?_)
      | (refine s_k 2 rfl ?_; first | refine s_val rfl rfl rfl (r_pick1 rfl rfl zTr rfl) ?_ | refine s_val rfl rfl rfl (r_pick0 rfl rfl zTr rfl) ?_)
      | (refine s_k 4 rfl ?_; first | refine s_boxA rfl rfl rfl rfl rfl fun blk => ?_ | refine s_box1 rfl rfl rfl rfl rfl rfl fun blk => ?_)
      | (refine s_k 34 rfl ?_; refine s_val rfl rfl rfl (r_extractL rfl rfl rfl) ?_)
      | refine s_nil ?_)
      | (refine c_g ?_; first | refine c_seq ?_ | refine c_region ?_ | (refine c_gc ?_; first | refine c_cond1 rfl zTr ?_ | refine c_cond0 rfl zTr ?_ | refine z_condd1 rfl ?_ | refine z_condd0 rfl ?_ | refine z_conddn1 rfl ?_ | refine z_conddn0 rfl ?_ | refine c_condd rfl (fun hc => ?_) (fun hc => ?_) | refine c_conddn rfl (fun hc => ?_) (fun hc => ?_) | refine c_condn rfl (fun hc => ?_) (fun hc => ?_) | refine c_cond rfl (fun hc => ?_) (fun hc => ?_)) | refine c_block ?_ | refine c_skip ?_ | refine c_exit ?_ | refine c_ret ?_)
      | (refine e_g ?_; first | refine e_then ?_ | refine e_blkn ?_ | refine e_thenx ?_ | refine e_thenr ?_ | refine e_blkr ?_ | refine e_blkx ?_ | refine e_blky rfl ?_)
      | (refine e_ret1 (by simp) rfl (re_tmp rfl) fun w hL => ⟨rfl, hL.toBelow⟩))
  case false =>
    have hspec := fun w g n cap cur hA hg => specMeetingPairs_nonew p0 c0 l1 g n cap cur w hp0 ho1 hvv hA hg
    have himpl := fun w g n cap cur hA hg => implMeetingPairs_nonew p0 c0 l1 g n cap cur w hp0 ho1 hvv hA hg
    refine enter2 Try.func6 rfl rfl rfl (Own.start w) ?_
    repeat' (first
      | (refine s_g ?_; first
      | (refine s_gd rfl ?_; first | refine s_gd1 rfl rfl zTr ?_ | refine s_gd0 rfl rfl rfl zTr ?_ | refine s_gd00 rfl rfl zTr ?_ | refine s_gp1 rfl rfl rfl (fun hc => ?_) (fun hc => ?_) | refine s_gp0 rfl rfl rfl (fun hc => ?_) (fun hc => ?_) | refine s_gnp1 rfl rfl rfl (fun hc => ?_) (fun hc => ?_) | refine s_gnp0 rfl rfl rfl (fun hc => ?_) (fun hc => ?_) | refine s_gb1 rfl rfl rfl (fun hc => ?_) (fun hc => ?_) | refine s_gb0 rfl rfl rfl (fun hc => ?_) (fun hc => ?_) | refine s_gnb1 rfl rfl rfl (fun hc => ?_) (fun hc => ?_) | refine s_gnb0 rfl rfl rfl (fun hc => ?_) (fun hc => ?_))
      | (refine s_k 0 rfl ?_; refine s_val rfl rfl rfl (r_move rfl rfl) ?_)
      | (refine s_k 8 rfl ?_; first | (refine' s_val rfl rfl rfl (r_ldv rfl rfl ?qm ?qv) ?_; (case qm => (exact zMm)); (case qv => (exact zLe))) | (refine' s_val rfl rfl rfl (r_ldo rfl rfl ?qw (by simp) ?qv) ?_; (case qw => assumption); (case qv => (exact zLe))))
      | (refine s_k 1 rfl ?_; refine s_val rfl rfl rfl (r_assign rfl rfl) ?_)
      | (refine s_k 13 rfl ?_; first | refine s_val rfl rfl rfl (r_lss rfl rfl rfl) ?_ | refine s_val rfl rfl rfl (r_neq rfl rfl rfl) ?_)
      | (refine s_k 35 rfl ?_; first | (refine s_call Try.func15 (by kernel_rfl) rfl rfl rfl rfl rfl rfl (fun w hL => sz_le (szStakeS_any _ l1 1048576 _ (hl1.below hL.toBelow) (by decide) (by decide)) hn1) ?_) | (refine s_call Try.func17 (by kernel_rfl) rfl rfl rfl rfl rfl rfl (fun w hL => toPasture_any p0 c0 _ hp0) ?_) | (refine s_call Try.func30 (by kernel_rfl) rfl rfl rfl rfl rfl rfl (fun w hL => himpl w _ _ _ _ hAq (hL.at_ m0)) ?_) | (refine s_call Try.func20 (by kernel_rfl) rfl rfl rfl rfl rfl rfl (fun w hL => eqStakeS_same _ _ l1 _ (hAp.toSl (lenSk l1) (by omega) (hL.at_ m1)) (hAq.toSl (lenSk l1) (by omega) (hL.at_ m0)) hn1) ?_) | (refine s_call Try.func31 (by kernel_rfl) rfl rfl rfl rfl rfl rfl (fun w hL => eqInt64A2S_nil _ _ _ w hIs0) ?_) | (refine s_call Try.func32 (by kernel_rfl) rfl rfl rfl rfl rfl rfl (fun w hL => markInt64A2S_nil w) ?_) | (refine s_call Try.func33 (by kernel_rfl) rfl rfl rfl rfl rfl rfl (fun w hL => heldInt64A2S_nil w) ?_) | (refine s_callN Try.func18 (by kernel_rfl) rfl rfl rfl rfl rfl rfl (fun w hL => toStakeS_new l1 A1 cap1 w (hS1.at_ hL) hn1) fun g k cap cur hA => ?_; (try have hAp := hAq); have hAq := hA) | (refine s_callN2 Try.func29 (by kernel_rfl) rfl rfl rfl rfl rfl rfl (fun w hL => hspec w _ _ _ _ hAq (hL.at_ m0)) fun ge ni capi ci hI0 => ?_; have hIs0 : ni = 0 := by have := hI0.len; simp [flPr] at this; omega) | (refine s_callM1 Try.func24 (by kernel_rfl) rfl rfl rfl rfl rfl rfl (fun w hL hg => markStakeS_z 1 _ h01 _ _ _ _ w hAp.fit hg (by have e := hAp.count (lenSk l1) (by omega); rw [List.length_map] at e; omega) (by omega)) fun cs hpX => ?_))
      | (refine s_k 14 rfl ?_; refine s_val rfl rfl rfl (r_not rfl rfl) ?_)
      | (refine s_k 2 rfl ?_; first | refine s_val rfl rfl rfl (r_pick1 rfl rfl zTr rfl) ?_ | refine s_val rfl rfl rfl (r_pick0 rfl rfl zTr rfl) ?_)
      | (refine s_k 4 rfl ?_; first | refine s_boxA rfl rfl rfl rfl rfl fun blk => ?_ | refine s_box1 rfl rfl rfl rfl rfl rfl fun blk => ?_)
      | (refine s_k 34 rfl ?_; refine s_val rfl rfl rfl (r_extractL rfl rfl rfl) ?_)
      | refine s_nil ?_)
      | (refine c_g ?_; first | refine c_seq ?_ | refine c_region ?_ | (refine c_gc ?_; first | refine c_cond1 rfl zTr ?_ | refine c_cond0 rfl zTr ?_ | refine z_condd1 rfl ?_ | refine z_condd0 rfl ?_ | refine z_conddn1 rfl ?_ | refine z_conddn0 rfl ?_ | refine c_condd rfl (fun hc => ?_) (fun hc => ?_) | refine c_conddn rfl (fun hc => ?_) (fun hc => ?_) | refine c_condn rfl (fun hc => ?_) (fun hc => ?_) | refine c_cond rfl (fun hc => ?_) (fun hc => ?_)) | refine c_block ?_ | refine c_skip ?_ | refine c_exit ?_ | refine c_ret ?_)
      | (refine e_g ?_; first | refine e_then ?_ | refine e_blkn ?_ | refine e_thenx ?_ | refine e_thenr ?_ | refine e_blkr ?_ | refine e_blkx ?_ | refine e_blky rfl ?_)
      | (refine e_ret1 (by simp) rfl (re_tmp rfl) fun w hL => ⟨rfl, hL.toBelow⟩))
namespace FnExactMeetingPairsRow
open Go.ChangeShapes Go.WideShapes Go.ChangeAt Go.RowKit
theorem own : ownKnob Try.prog.godebug = none := by kernel_rfl
theorem laidOut : laidOutB Try.prog = true := by kernel_rfl
set_option maxRecDepth 100000 in
set_option maxHeartbeats 1000000 in
theorem lifted (os : Os) (started : os.Started) (H : Type) (enc : TypeId × Value → H) :
    ReturnsInHanded {} Try.checked os 6 .any (Rows.fnExactMeetingPairsSpec.pre6 enc Try.prog Try.f6 Rows.fnExactMeetingPairsRow.domain false) (Rows.fnExactMeetingPairsSpec.post enc Try.prog Try.f6 false true false false) := by
  refine returnsInHanded_of_change (C := Try.checked) own started (by kernel_rfl) Try.func6
    (ChangeSpec.witness6 (enc := enc) (C := Try.checked) false ⟨#[], #[.agg zP, .slice none 0 0], []⟩ 8 (by kernel_rfl) (by kernel_rfl) (by kernel_rfl) (by kernel_rfl)) ?_
  intro W base args ds gs before hval0 hW hcnd _
  have hval : ∀ (j : Nat) t v, Try.f6.params[j]? = some t → args[j]? = some v → Value.okWide Try.prog W .any base t v := hval0
  have hW' := hW
  obtain ⟨p, q, hA0, hV, rfl, hfz, hnd⟩ := hW
  have hA : DataW.TrodAll enc Try.prog W 0 (fun _ => true) true Try.f6.params.toList args.toList ds p := hA0
  rw [Try.params6] at hA hval
  obtain ⟨v0, vs0, d0, ds0, p0, q0, hargs, rfl, rfl, h0, r0⟩ := trodAll_cons hA
  obtain ⟨v1, vs1, d1, ds1, p1, q1, rfl, rfl, rfl, h1, r1⟩ := trodAll_cons r0
  obtain ⟨rfl, rfl, rfl⟩ := trodAll_nil r1
  obtain rfl : args = #[v0, v1] := by cases args; simp_all
  obtain ⟨rfl, rfl⟩ := trodVars_none hV
  have k0 := h0
  have lt0 : ∀ x ∈ p0, x.block < W.heap.size := by obtain ⟨m, hm⟩ := k0; exact DataW.trod_lt m _ _ _ hm
  have k1 := h1
  have lt1 : ∀ x ∈ p1, x.block < W.heap.size := by obtain ⟨m, hm⟩ := k1; exact DataW.trod_lt m _ _ _ hm
  obtain ⟨c0, rfl, hs0, hf0⟩ := open_flat (n := 5) (ks := pasK) (by kernel_rfl) (by kernel_rfl) (by kernel_rfl) (hval 0 _ v0 rfl rfl) h0
  obtain ⟨p0', hp0⟩ := pv_of_flat hs0 hf0
  obtain ⟨xs1, hl1, hf1⟩ := open_flat_slice (n := 5) (ks := skK) Try.underlying30 (by kernel_rfl) (by kernel_rfl) (by decide) (hval 1 _ v1 rfl rfl) h1
  obtain ⟨l1, rfl, ho1⟩ := list_of_cells (f := Sk.cells) (p := Sk.ok) xs1 (fun c hc => by
    obtain ⟨hcl, _⟩ := sl_elem hl1 c hc
    exact sk_of_flat hcl (hf1 c hc))
  clear hA0 hval0
  refine (FnExactMeetingPairs_walk p0' c0 v1 l1 W hp0 hl1 ho1).mono fun e W' ⟨he, bel⟩ => ?_
  subst he
  exact ⟨_, rfl, _, _, _, [], _, [], hW', trodAll_mk1 (shut_bool Try.underlying4 _), (trodAll_cons_mk (Below.trod laidOut (by kernel_rfl) (of_decide_eq_true (by kernel_rfl)) k0 bel lt0) (trodAll_cons_mk (Below.trod laidOut (by kernel_rfl) (of_decide_eq_true (by kernel_rfl)) k1 bel lt1) trodAll_mk0)), rfl, bel.frame _, fun h => by cases h⟩
theorem closed : joinedFacts Try.prog 6 Try.f6 Rows.fnExactMeetingPairsSpec Rows.fnExactMeetingPairsRow = true := by
  unfold joinedFacts
  rw [prog_mayEnter, prog_lifts, prog_make]
  show (_ : Bool) = true
  kernel_rfl
theorem over : Rows.fnExactMeetingPairsRow.holds Try.pinned (OpenSpec.ofChange Rows.fnExactMeetingPairsSpec) :=
  OpenClaim.holds_of_wide 6 Try.f6 rfl rfl rfl rfl rfl rfl rfl ⟨rfl, rfl, rfl, rfl, rfl⟩ rfl rfl rfl rfl rfl (by kernel_rfl) Try.func6 closed
    (of_decide_eq_true (by kernel_rfl)) (by unfold Func.isWrapper; first | (rw [if_pos (by decide +kernel)]; kernel_rfl) | (rw [if_neg (by decide +kernel)]; exact ⟨rfl, rfl⟩))
    (fun os started H enc _ => lifted os started H enc)
end FnExactMeetingPairsRow
theorem fnExactMeetingPairs_holds : Rows.FnExactMeetingPairsSaid := FnExactMeetingPairsRow.over
#print axioms fnExactMeetingPairs_holds
end Go.Proofs.Ytpifngdmlmfnhaa
