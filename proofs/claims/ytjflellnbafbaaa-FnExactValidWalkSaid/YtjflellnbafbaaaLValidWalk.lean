/- ValidWalk: the program's and the reference's return the same, for all arguments: no condition. -/
import Derived.Test.YtjflellnbafbaaaRows
import Derived.Test.YtjflellnbafbaaaWls
import Derived.Test.YtjflellnbafbaaaRe
import Derived.Test.YtjflellnbafbaaaEqP
namespace Go.Proofs.Ytjflellnbafbaaa
set_option linter.unusedVariables false
set_option linter.unusedSimpArgs false
open Go.RowKit Mem Wk
attribute [local irreducible] Calls Wk.S Wk.C Wk.E Wk.X Wk.T Wk.Y Calm.wpLex CalmB.wpLex

theorem run_neqB (a b : Bool) (w : World) : (binOp .neq 4 (.bool a) (.bool b)).run Try.prog w = .ok (.bool (!(a == b))) w := by
  cases a <;> cases b <;> kernel_rfl
theorem gd_neqB (x y : Operand) (a b : Bool) (w : World) : (eqGuard .neq 4 x y (.bool a) (.bool b)).run Try.prog w = .ok () w := by
  have h : (Program.eqGuardType Try.prog Try.prog.depth 4) = false := by kernel_rfl
  unfold eqGuard
  split <;> simp [h]
theorem r_neqB {n : Nat} {O : List Nat} {w0 : World} {l : List (Nat × Value)} {L : List (Nat × TypeId × Array Value)} {o : Oper} {x y : Operand} {t' : Nat} {a b : Bool} (ho : o.op = .binOp .neq 4 x y t') (hx : ev l x = some (.bool a)) (hy : ev l y = some (.bool b)) : Rn Try.prog n O w0 l L o (.bool (!(a == b))) := fun ac w hF hL => by
  simp [execOp, ho, hF.eval hx, hF.eval hy, gd_neqB, run_neqB]
theorem wsz_le {f : FuncId} {args : Array Value} {w : World} {n : Nat} (h : Calls Try.prog f args w fun e w' => e = .returned (.int .i64 (if (n : Int) ≤ 1048576 then 1048576 - n else -1)) ∧ w = w') (hn : n ≤ 1048576) : Calls Try.prog f args w fun e w' => e = .returned (.int .i64 (1048576 - n)) ∧ Below w.heap.size w w' := by
  rw [if_pos (by omega)] at h; exact to_below h rfl
theorem wsz_gt {f : FuncId} {args : Array Value} {w : World} {n : Nat} (h : Calls Try.prog f args w fun e w' => e = .returned (.int .i64 (if (n : Int) ≤ 1048576 then 1048576 - n else -1)) ∧ w = w') (hn : ¬ n ≤ 1048576) : Calls Try.prog f args w fun e w' => e = .returned (.int .i64 (-1)) ∧ Below w.heap.size w w' := by
  rw [if_neg (by omega)] at h; exact to_below h rfl
theorem wsl_fit {w : World} {sz : Nat} {v : Value} {xs : List (List Value)} (h : Sl w sz v xs) : xs.length ≤ maxLen := by obtain ⟨A, cap, _, h1, h2, _⟩ := h; omega
theorem wspec_sl {p : Nat → Int} {cs : Array Value} {x y : Int} {u : Value} {l : List Sp} {w : World} (hp : Pv p cs) (hs : (Sp.mk x y).ok) (hU : Sl w 2 u (l.map Sp.cells)) (hok : ∀ h ∈ l, h.ok) : Calls Try.prog 38 #[.agg cs, .agg #[.int .i8 x, .int .i8 y], u] w fun e w' => e = .returned (.bool (wkV p ⟨x, y⟩ l)) ∧ Below w.heap.size w w' := by
  have hn := wsl_fit hU
  obtain ⟨A, cap, rfl, h1, h2, hS⟩ := hU.open
  rw [List.length_map] at hn h1 ⊢
  exact specWalk_any p cs x y l A cap w hp hs hS hn hok
theorem wimpl_sl {p : Nat → Int} {cs : Array Value} {x y : Int} {u : Value} {l : List Sp} {w : World} (hp : Pv p cs) (hs : (Sp.mk x y).ok) (hU : Sl w 2 u (l.map Sp.cells)) (hok : ∀ h ∈ l, h.ok) : Calls Try.prog 40 #[.agg cs, .agg #[.int .i8 x, .int .i8 y], u] w fun e w' => e = .returned (.bool (wkV p ⟨x, y⟩ l)) ∧ Below w.heap.size w w' := by
  have hn := wsl_fit hU
  obtain ⟨A, cap, rfl, h1, h2, hS⟩ := hU.open
  rw [List.length_map] at hn h1 ⊢
  exact implWalk_any p cs x y l A cap w hp hs hS hn hok
set_option maxRecDepth 100000 in
set_option maxHeartbeats 400000 in
theorem FnExactValidWalk_walk (p0 : Nat → Int) (c0 : Array Value) (s1 : Sp) (v2 : Value) (l2 : List Sp) (w : World) (hp0 : Pv p0 c0) (hs1 : s1.ok) (hl2 : Sl w 2 v2 (l2.map Sp.cells)) (ho2 : ∀ s ∈ l2, s.ok) :
    Calls Try.prog 9 #[.agg c0, .agg #[.int .i8 s1.x, .int .i8 s1.y], v2] w fun e w' => e = .returned (.bool true) ∧ Below w.heap.size w w' := by
  have hsz := hp0.size
  obtain ⟨x, y⟩ := s1
  have hK : Kw w [] := Kw.nil w
  have hB : Below w.heap.size w w := ⟨rfl, rfl, rfl, Nat.le_refl _, fun _ _ => rfl⟩
  by_cases hn2 : l2.length ≤ 1048576
  case neg =>
    refine enter3 Try.func9 rfl rfl rfl (Own.start w) ?_
    repeat' (first
      | (refine s_g ?_; first
      | (refine s_k 0 rfl ?_; refine s_val rfl rfl rfl (r_move rfl rfl) ?_)
      | (refine s_k 8 rfl ?_; first | (refine' s_val rfl rfl rfl (r_ldv rfl rfl ?qm ?qv) ?_; (case qm => (first | exact m0 | exact m1 | exact m2 | exact m3 | exact m4 | exact m5 | exact m6 | exact m7 | exact m8 | exact m9 | exact m10 | exact m11)); (case qv => (first | exact ldvL tb rfl rfl | exact ldv1 tb rfl (by assumption) | exact ldvW tb rfl rfl | exact ldvW tb rfl (by assumption) | exact ldvW tb rfl (Pv.size (by assumption)) | exact ldvN tb rfl ext2_0 rfl | exact ldvN tb rfl ext2_2 rfl))) | (refine' s_val rfl rfl rfl (r_ldo rfl rfl ?qw (by simp) ?qv) ?_; (case qw => assumption); (case qv => (first | exact ldvL tb rfl rfl | exact ldv1 tb rfl (by assumption) | exact ldvW tb rfl rfl | exact ldvW tb rfl (by assumption) | exact ldvW tb rfl (Pv.size (by assumption)) | exact ldvN tb rfl ext2_0 rfl | exact ldvN tb rfl ext2_2 rfl))))
      | (refine s_k 1 rfl ?_; refine s_val rfl rfl rfl (r_assign rfl rfl) ?_)
      | (refine s_k 13 rfl ?_; first | refine s_val rfl rfl rfl (r_lss rfl rfl rfl) ?_ | refine s_val rfl rfl rfl (r_neq rfl rfl rfl) ?_)
      | (refine s_k 35 rfl ?_; (refine s_call Try.func37 (by kernel_rfl) rfl rfl rfl rfl rfl rfl (fun w hL => wsz_gt (szSpotS_any v2 l2 1048576 _ (hl2.below hL.toBelow) (by decide) (by decide)) hn2) ?_))
      | (refine s_k 14 rfl ?_; refine s_val rfl rfl rfl (r_not rfl rfl) ?_)
      | (refine s_k 4 rfl ?_; first | refine s_boxA rfl rfl rfl rfl rfl fun blk => ?_ | refine s_box1 rfl rfl rfl rfl rfl rfl fun blk => ?_)
      | refine s_nil ?_)
      | (refine c_g ?_; first | refine c_seq ?_ | refine c_region ?_ | (refine c_gc ?_; first | refine c_cond1 rfl (by first | rfl | assumption | (apply dt1; assumption) | (apply dt0; assumption) | (apply nt1; assumption) | (apply nt0; assumption) | (apply ndt1; assumption) | (apply ndt0; assumption) | (apply dt1; omega) | (apply dt0; omega)) ?_ | refine c_cond0 rfl (by first | rfl | assumption | (apply dt1; assumption) | (apply dt0; assumption) | (apply nt1; assumption) | (apply nt0; assumption) | (apply ndt1; assumption) | (apply ndt0; assumption) | (apply dt1; omega) | (apply dt0; omega)) ?_ | refine c_condd1 rfl (by omega) ?_ | refine c_condd0 rfl (by omega) ?_ | refine c_conddn1 rfl (by omega) ?_ | refine c_conddn0 rfl (by omega) ?_ | refine c_condd rfl (fun hc => ?_) (fun hc => ?_) | refine c_conddn rfl (fun hc => ?_) (fun hc => ?_) | refine c_condn rfl (fun hc => ?_) (fun hc => ?_) | refine c_cond rfl (fun hc => ?_) (fun hc => ?_)) | refine c_block ?_ | refine c_skip ?_ | refine c_exit ?_ | refine c_ret ?_)
      | (refine e_g ?_; first | refine e_then ?_ | refine e_blkn ?_ | refine e_thenx ?_ | refine e_thenr ?_ | refine e_blkr ?_ | refine e_blkx ?_ | refine e_blky rfl ?_)
      | (refine e_ret1 (by simp) rfl (re_tmp rfl) fun w hL => ⟨rfl, hL.toBelow⟩))
  case pos =>
    have hbb : (!(wkV p0 ⟨x, y⟩ l2 == wkV p0 ⟨x, y⟩ l2)) = false := by simp
    refine enter3 Try.func9 rfl rfl rfl (Own.start w) ?_
    repeat' (first
      | (refine s_g ?_; first
      | (refine s_k 0 rfl ?_; refine s_val rfl rfl rfl (r_move rfl rfl) ?_)
      | (refine s_k 8 rfl ?_; first | (refine' s_val rfl rfl rfl (r_ldv rfl rfl ?qm ?qv) ?_; (case qm => (first | exact m0 | exact m1 | exact m2 | exact m3 | exact m4 | exact m5 | exact m6 | exact m7 | exact m8 | exact m9 | exact m10 | exact m11)); (case qv => (first | exact ldvL tb rfl rfl | exact ldv1 tb rfl (by assumption) | exact ldvW tb rfl rfl | exact ldvW tb rfl (by assumption) | exact ldvW tb rfl (Pv.size (by assumption)) | exact ldvN tb rfl ext2_0 rfl | exact ldvN tb rfl ext2_2 rfl))) | (refine' s_val rfl rfl rfl (r_ldo rfl rfl ?qw (by simp) ?qv) ?_; (case qw => assumption); (case qv => (first | exact ldvL tb rfl rfl | exact ldv1 tb rfl (by assumption) | exact ldvW tb rfl rfl | exact ldvW tb rfl (by assumption) | exact ldvW tb rfl (Pv.size (by assumption)) | exact ldvN tb rfl ext2_0 rfl | exact ldvN tb rfl ext2_2 rfl))) | (refine' s_val rfl rfl rfl (r_ldk ?qk rfl rfl ?qm ?qv) ?_; (case qk => assumption); (case qm => (first | exact m0 | exact m1 | exact m2 | exact m3 | exact m4 | exact m5 | exact m6 | exact m7 | exact m8 | exact m9 | exact m10 | exact m11)); (case qv => (first | exact ldvL tb rfl rfl | exact ldv1 tb rfl (by assumption) | exact ldvW tb rfl rfl | exact ldvW tb rfl (by assumption) | exact ldvW tb rfl (Pv.size (by assumption)) | exact ldvN tb rfl ext2_0 rfl | exact ldvN tb rfl ext2_2 rfl))))
      | (refine s_k 1 rfl ?_; refine s_val rfl rfl rfl (r_assign rfl rfl) ?_)
      | (refine s_k 13 rfl ?_; first | refine s_val rfl rfl rfl (r_neqB rfl rfl rfl) ?_ | refine s_val rfl rfl rfl (r_lss rfl rfl rfl) ?_ | refine s_val rfl rfl rfl (r_neq rfl rfl rfl) ?_)
      | (refine s_k 35 rfl ?_; first | (refine s_call Try.func37 (by kernel_rfl) rfl rfl rfl rfl rfl rfl (fun w hL => wsz_le (szSpotS_any v2 l2 1048576 _ (hl2.below hL.toBelow) (by decide) (by decide)) hn2) ?_) | (refine s_call Try.func24 (by kernel_rfl) rfl rfl rfl rfl rfl rfl (fun w hL => toPasture_any p0 c0 _ hp0) ?_) | (refine s_call Try.func16 (by kernel_rfl) rfl rfl rfl rfl rfl rfl (fun w hL => toSpot_any _ _ _) ?_) | (refine s_call Try.func38 (by kernel_rfl) rfl rfl rfl rfl rfl rfl (fun w hL => wspec_sl hp0 hs1 (hU.below hL.toBelow) ho2) ?_) | (refine s_call Try.func40 (by kernel_rfl) rfl rfl rfl rfl rfl rfl (fun w hL => wimpl_sl hp0 hs1 (hU.below hL.toBelow) ho2) ?_) | (refine s_call Try.func41 (by kernel_rfl) rfl rfl rfl rfl rfl rfl (fun w hL => eqSpotS_same _ _ l2 _ (hX.below hL.toBelow) (hU.below hL.toBelow) hn2) ?_) | (refine s_callE Try.func39 (by kernel_rfl) rfl rfl rfl rfl rfl rfl (fun w hL => toSpotS_any v2 l2 _ (hl2.below hL.toBelow) hn2) fun u w1 hL1 hU => ?_; have hX := hU; (try have hX := hU0.below hL1.toBelow); have hU0 := hU; have hl2 := hl2.below hL1.toBelow; have hK := hK.base hL1; have hB := hB.trans (hL1.toBelow.mono hB.size)))
      | (refine s_k 14 rfl ?_; refine s_val rfl rfl rfl (r_not rfl rfl) ?_)
      | (refine s_k 4 rfl ?_; first | refine s_boxA rfl rfl rfl rfl rfl fun blk => ?_ | refine s_box1 rfl rfl rfl rfl rfl rfl fun blk => ?_)
      | refine s_nil ?_)
      | (refine c_g ?_; first | refine c_seq ?_ | refine c_region ?_ | (refine c_gc ?_; first | refine c_cond1 rfl (by first | rfl | assumption | (apply dt1; assumption) | (apply dt0; assumption) | (apply nt1; assumption) | (apply nt0; assumption) | (apply ndt1; assumption) | (apply ndt0; assumption) | (apply dt1; omega) | (apply dt0; omega)) ?_ | refine c_cond0 rfl (by first | rfl | assumption | (apply dt1; assumption) | (apply dt0; assumption) | (apply nt1; assumption) | (apply nt0; assumption) | (apply ndt1; assumption) | (apply ndt0; assumption) | (apply dt1; omega) | (apply dt0; omega)) ?_ | refine c_condd1 rfl (by omega) ?_ | refine c_condd0 rfl (by omega) ?_ | refine c_conddn1 rfl (by omega) ?_ | refine c_conddn0 rfl (by omega) ?_ | refine c_condd rfl (fun hc => ?_) (fun hc => ?_) | refine c_conddn rfl (fun hc => ?_) (fun hc => ?_) | refine c_condn rfl (fun hc => ?_) (fun hc => ?_) | refine c_cond rfl (fun hc => ?_) (fun hc => ?_)) | refine c_block ?_ | refine c_skip ?_ | refine c_exit ?_ | refine c_ret ?_)
      | (refine e_g ?_; first | refine e_then ?_ | refine e_blkn ?_ | refine e_thenx ?_ | refine e_thenr ?_ | refine e_blkr ?_ | refine e_blkx ?_ | refine e_blky rfl ?_)
      | (refine x_g ?_; first
      | (refine x_k 0 rfl ?_; (refine x_val rfl rfl rfl (r_move rfl rfl) ?hp ?_; (case hp => exact rfl)))
      | (refine x_k 8 rfl ?_; first | (refine' x_val rfl rfl rfl (r_ldv rfl rfl ?qm ?qv) ?hp ?_; (case qm => (first | exact m0 | exact m1 | exact m2 | exact m3 | exact m4 | exact m5 | exact m6 | exact m7 | exact m8 | exact m9 | exact m10 | exact m11)); (case qv => (first | exact ldvL tb rfl rfl | exact ldv1 tb rfl (by assumption) | exact ldvW tb rfl rfl | exact ldvW tb rfl (by assumption) | exact ldvW tb rfl (Pv.size (by assumption)) | exact ldvN tb rfl ext2_0 rfl | exact ldvN tb rfl ext2_2 rfl)); (case hp => exact rfl)) | (refine' x_val rfl rfl rfl (r_ldo rfl rfl ?qw (by simp) ?qv) ?hp ?_; (case qw => assumption); (case qv => (first | exact ldvL tb rfl rfl | exact ldv1 tb rfl (by assumption) | exact ldvW tb rfl rfl | exact ldvW tb rfl (by assumption) | exact ldvW tb rfl (Pv.size (by assumption)) | exact ldvN tb rfl ext2_0 rfl | exact ldvN tb rfl ext2_2 rfl)); (case hp => exact rfl)) | (refine' x_val rfl rfl rfl (r_ldk ?qk rfl rfl ?qm ?qv) ?hp ?_; (case qk => assumption); (case qm => (first | exact m0 | exact m1 | exact m2 | exact m3 | exact m4 | exact m5 | exact m6 | exact m7 | exact m8 | exact m9 | exact m10 | exact m11)); (case qv => (first | exact ldvL tb rfl rfl | exact ldv1 tb rfl (by assumption) | exact ldvW tb rfl rfl | exact ldvW tb rfl (by assumption) | exact ldvW tb rfl (Pv.size (by assumption)) | exact ldvN tb rfl ext2_0 rfl | exact ldvN tb rfl ext2_2 rfl)); (case hp => exact rfl)))
      | (refine x_k 1 rfl ?_; (refine x_val rfl rfl rfl (r_assign rfl rfl) ?hp ?_; (case hp => exact rfl)))
      | (refine x_k 13 rfl ?_; first | (refine x_val rfl rfl rfl (r_neqB rfl rfl rfl) ?hp ?_; (case hp => exact rfl)) | (refine x_val rfl rfl rfl (r_lss rfl rfl rfl) ?hp ?_; (case hp => exact rfl)) | (refine x_val rfl rfl rfl (r_neq rfl rfl rfl) ?hp ?_; (case hp => exact rfl)))
      | (refine x_k 35 rfl ?_; first | (refine x_call Try.func37 (by kernel_rfl) rfl rfl rfl rfl rfl rfl (fun w hL => wsz_le (szSpotS_any v2 l2 1048576 _ (hl2.below hL.toBelow) (by decide) (by decide)) hn2) ?hp ?_; (case hp => exact rfl)) | (refine x_call Try.func24 (by kernel_rfl) rfl rfl rfl rfl rfl rfl (fun w hL => toPasture_any p0 c0 _ hp0) ?hp ?_; (case hp => exact rfl)) | (refine x_call Try.func16 (by kernel_rfl) rfl rfl rfl rfl rfl rfl (fun w hL => toSpot_any _ _ _) ?hp ?_; (case hp => exact rfl)) | (refine x_call Try.func38 (by kernel_rfl) rfl rfl rfl rfl rfl rfl (fun w hL => wspec_sl hp0 hs1 (hU.below hL.toBelow) ho2) ?hp ?_; (case hp => exact rfl)) | (refine x_call Try.func40 (by kernel_rfl) rfl rfl rfl rfl rfl rfl (fun w hL => wimpl_sl hp0 hs1 (hU.below hL.toBelow) ho2) ?hp ?_; (case hp => exact rfl)) | (refine x_call Try.func41 (by kernel_rfl) rfl rfl rfl rfl rfl rfl (fun w hL => eqSpotS_same _ _ l2 _ (hX.below hL.toBelow) (hU.below hL.toBelow) hn2) ?hp ?_; (case hp => exact rfl)))
      | (refine x_k 14 rfl ?_; (refine x_val rfl rfl rfl (r_not rfl rfl) ?hp ?_; (case hp => exact rfl)))
      | (refine x_k 4 rfl ?_; (refine x_boxA rfl rfl rfl rfl rfl ?hp (fun blk => ?_); (case hp => exact rfl)))
      | refine x_nil0 ?_
      | refine x_nil ?_)
      | (refine' c_drawXT (id := 5) 5 [(Sum.inl _ : Calm.Plan), (Sum.inl _ : Calm.Plan), (Sum.inl _ : Calm.Plan), (Sum.inl _ : Calm.Plan), (Sum.inl _ : Calm.Plan)] (by kernel_rfl) (by kernel_rfl) (by kernel_rfl) ?_)
      | (refine' c_drawX (id := 7) [(Sum.inl _ : Calm.Plan), (Sum.inl _ : Calm.Plan), (Sum.inl _ : Calm.Plan), (Sum.inl _ : Calm.Plan), (Sum.inl _ : Calm.Plan), (Sum.inl _ : Calm.Plan), (Sum.inl _ : Calm.Plan)] (by kernel_rfl) (by kernel_rfl) (by kernel_rfl) ?_)
      | refine e_tail ?_
      | (refine e_ret1 (by simp) rfl (re_tmp rfl) fun w hL => ⟨rfl, hB.trans (hL.toBelow.mono hB.size)⟩))
namespace FnExactValidWalkRow
open Go.ChangeShapes Go.WideShapes Go.ChangeAt Go.RowKit
theorem own : ownKnob Try.prog.godebug = none := by kernel_rfl
theorem laidOut : laidOutB Try.prog = true := by kernel_rfl
set_option maxRecDepth 100000 in
set_option maxHeartbeats 1000000 in
theorem lifted (os : Os) (started : os.Started) (H : Type) (enc : TypeId × Value → H) :
    ReturnsInHanded {} Try.checked os 9 .any (Rows.fnExactValidWalkSpec.pre6 enc Try.prog Try.f9 Rows.fnExactValidWalkRow.domain false) (Rows.fnExactValidWalkSpec.post enc Try.prog Try.f9 false true false false) := by
  refine returnsInHanded_of_change (C := Try.checked) own started (by kernel_rfl) Try.func9
    (ChangeSpec.witness6 (enc := enc) (C := Try.checked) false ⟨#[], #[.agg zP, .agg #[.int .i8 0, .int .i8 0], .slice none 0 0], []⟩ 8 (by kernel_rfl) (by kernel_rfl) (by kernel_rfl) (by kernel_rfl)) ?_
  intro W base args ds gs before hval0 hW hcnd _
  have hval : ∀ (j : Nat) t v, Try.f9.params[j]? = some t → args[j]? = some v → Value.okWide Try.prog W .any base t v := hval0
  have hW' := hW
  obtain ⟨p, q, hA0, hV, rfl, hfz, hnd⟩ := hW
  have hA : DataW.TrodAll enc Try.prog W 0 (fun _ => true) true Try.f9.params.toList args.toList ds p := hA0
  rw [Try.params9] at hA hval
  obtain ⟨v0, vs0, d0, ds0, p0, q0, hargs, rfl, rfl, h0, r0⟩ := trodAll_cons hA
  obtain ⟨v1, vs1, d1, ds1, p1, q1, rfl, rfl, rfl, h1, r1⟩ := trodAll_cons r0
  obtain ⟨v2, vs2, d2, ds2, p2, q2, rfl, rfl, rfl, h2, r2⟩ := trodAll_cons r1
  obtain ⟨rfl, rfl, rfl⟩ := trodAll_nil r2
  obtain rfl : args = #[v0, v1, v2] := by cases args; simp_all
  obtain ⟨rfl, rfl⟩ := trodVars_none hV
  have k0 := h0
  have lt0 : ∀ x ∈ p0, x.block < W.heap.size := by obtain ⟨m, hm⟩ := k0; exact DataW.trod_lt m _ _ _ hm
  have k1 := h1
  have lt1 : ∀ x ∈ p1, x.block < W.heap.size := by obtain ⟨m, hm⟩ := k1; exact DataW.trod_lt m _ _ _ hm
  have k2 := h2
  have lt2 : ∀ x ∈ p2, x.block < W.heap.size := by obtain ⟨m, hm⟩ := k2; exact DataW.trod_lt m _ _ _ hm
  obtain ⟨c0, rfl, hs0, hf0⟩ := open_flat (n := 5) (ks := pasK) (by kernel_rfl) (by kernel_rfl) (by kernel_rfl) (hval 0 _ v0 rfl rfl) h0
  obtain ⟨p0', hp0⟩ := pv_of_flat hs0 hf0
  obtain ⟨c1, rfl, hz1, hf1⟩ := open_flat (n := 5) (ks := spK) (by kernel_rfl) (by kernel_rfl) (by kernel_rfl) (hval 1 _ v1 rfl rfl) h1
  obtain ⟨s1, hc1, hs1⟩ := sp_of_flat (cs := c1.toList) (by rw [Array.length_toList]; exact hz1) (fun j k hj => by rw [Array.getElem?_toList]; exact hf1 j k hj)
  obtain rfl : c1 = #[.int .i8 s1.x, .int .i8 s1.y] := by apply Array.ext'; rw [hc1]; rfl
  obtain ⟨xs2, hl2, hf2⟩ := open_flat_slice (n := 5) (ks := spK) Try.underlying64 (by kernel_rfl) (by kernel_rfl) (by decide) (hval 2 _ v2 rfl rfl) h2
  obtain ⟨l2, rfl, ho2⟩ := list_of_cells (f := Sp.cells) (p := Sp.ok) xs2 (fun c hc => by
    obtain ⟨hcl, _⟩ := sl_elem hl2 c hc
    exact sp_of_flat hcl (hf2 c hc))
  clear hA0 hval0
  refine (FnExactValidWalk_walk p0' c0 s1 v2 l2 W hp0 hs1 hl2 ho2).mono fun e W' ⟨he, bel⟩ => ?_
  subst he
  exact ⟨_, rfl, _, _, _, [], _, [], hW', trodAll_mk1 (shut_bool Try.underlying4 _), (trodAll_cons_mk (Below.trod laidOut (by kernel_rfl) (of_decide_eq_true (by kernel_rfl)) k0 bel lt0) (trodAll_cons_mk (Below.trod laidOut (by kernel_rfl) (of_decide_eq_true (by kernel_rfl)) k1 bel lt1) (trodAll_cons_mk (Below.trod laidOut (by kernel_rfl) (of_decide_eq_true (by kernel_rfl)) k2 bel lt2) trodAll_mk0))), rfl, bel.frame _, fun h => by cases h⟩
theorem over : Rows.fnExactValidWalkRow.holds Try.pinned (OpenSpec.ofChange Rows.fnExactValidWalkSpec) :=
  OpenClaim.holds_of_wide 9 Try.f9 rfl rfl rfl rfl rfl rfl rfl ⟨rfl, rfl, rfl, rfl, rfl⟩ rfl rfl rfl rfl rfl (by kernel_rfl) Try.func9 (by kernel_rfl)
    (of_decide_eq_true (by kernel_rfl)) (by unfold Func.isWrapper; first | (rw [if_pos (by decide +kernel)]; kernel_rfl) | (rw [if_neg (by decide +kernel)]; exact ⟨rfl, rfl⟩))
    (fun os started H enc _ => lifted os started H enc)
end FnExactValidWalkRow
theorem fnExactValidWalk_holds : Rows.FnExactValidWalkSaid := FnExactValidWalkRow.over
#print axioms fnExactValidWalk_holds
end Go.Proofs.Ytjflellnbafbaaa
