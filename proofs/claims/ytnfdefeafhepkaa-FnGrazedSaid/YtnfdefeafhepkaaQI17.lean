import Derived.Test.YtnfdefeafhepkaaQI08
import Derived.Test.YtnfdefeafhepkaaQI10
set_option linter.unusedVariables false
set_option linter.unusedSimpArgs false
namespace Go.Proofs.Ytnfdefeafhepkaa
open Go.RowKit Mem Wk
attribute [local irreducible] Calls Wk.S Wk.C Wk.E Wk.X Wk.T Wk.anV Wk.orV Wk.andV Wk.shlV Wk.shrV Calm.wpLex
def cellN (W k : Nat) : Sp := ⟨((k % W : Nat) : Int), ((k / W : Nat) : Int)⟩
def cellL (f : Sp → Bool) (W k : Nat) : List Sp := ((List.range k).map (cellN W)).filter f
theorem cellN_at {W x : Nat} (y : Nat) (hx : x < W) : cellN W (y * W + x) = ⟨(x : Int), (y : Int)⟩ := by
  unfold cellN
  rw [Nat.mul_comm, Nat.mul_add_mod, Nat.mod_eq_of_lt hx, Nat.mul_add_div (by omega), Nat.div_eq_of_lt hx]; simp
theorem cellL_yes {f : Sp → Bool} {W x y : Nat} (hx : x < W) (h : f ⟨(x : Int), (y : Int)⟩ = true) : cellL f W (y * W + (x + 1)) = cellL f W (y * W + x) ++ [⟨(x : Int), (y : Int)⟩] := by
  unfold cellL; rw [← Nat.add_assoc, List.range_succ, List.map_append, List.filter_append]; simp [cellN_at y hx, h]
theorem cellL_no {f : Sp → Bool} {W x y : Nat} (hx : x < W) (h : f ⟨(x : Int), (y : Int)⟩ = false) : cellL f W (y * W + (x + 1)) = cellL f W (y * W + x) := by
  unfold cellL; rw [← Nat.add_assoc, List.range_succ, List.map_append, List.filter_append]; simp [cellN_at y hx, h]
theorem cellL_len (f : Sp → Bool) (W k : Nat) : (cellL f W k).length ≤ k := by
  unfold cellL; exact Nat.le_trans (List.length_filter_le _ _) (by simp)
theorem cellL_all (W k : Nat) : cellL (fun _ => true) W k = (List.range k).map (cellN W) := by
  unfold cellL; rw [List.filter_eq_self]; simp
def LooksSp (w : World) (cf : FuncId) (caps : List Value) (f : Sp → Bool) (W H : Nat) : Prop :=
  ∀ x y : Nat, x < W → y < H → ∀ w', Below w.heap.size w w' → Calls Try.prog cf ([Value.agg #[.int .i8 (x : Int), .int .i8 (y : Int)]] ++ caps).toArray w' fun e w'' => e = .returned (.bool (f ⟨(x : Int), (y : Int)⟩)) ∧ Below w'.heap.size w' w''
set_option maxRecDepth 100000 in
set_option maxHeartbeats 800000 in
theorem cells_any (p : Nat → Int) (cs : Array Value) (W H : Nat) (cf : FuncId) (fn : Func) (caps : List Value) (f : Sp → Bool) (w : World) (hp : Pv p cs) (hW : p 0 = (W : Int)) (hH : p 1 = (H : Int)) (hW10 : W ≤ 10) (hH10 : H ≤ 10) (hf : Try.prog.funcs[cf]? = some fn) (hname : (fn.name == "runtime.NumGoroutine") = false) (hb : fn.body.isSome = true) (hc : LooksSp w cf caps f W H) :
    Calls Try.prog 122 #[.agg cs, .func (.func cf) #[] caps.toArray] w (NewS 66 2 (flS (cellL f W (H * W))) w) := by
  have hsz := hp.size
  have h0 := hp.g0
  have h1 := hp.g1
  rw [hW] at h0; rw [hH] at h1
  refine enter2 Try.func122 rfl rfl rfl (Own.start w) ?_
  repeat' (first | (refine s_g ?_; first | (refine s_k 0 rfl ?_; refine zsv (r_move rfl rfl) ?_) | (refine s_k 23 rfl ?_; first | refine zsv (r_field tb rfl rfl rfl) ?_ | refine zsv (r_fieldS tb rfl rfl rfl) ?_) | (refine s_k 8 rfl ?_; first | (refine' s_val rfl rfl rfl (r_ldv rfl rfl ?qm ?qv) ?_; (case qm => (exact zMm)); (case qv => (first | exact ldvL tb rfl rfl | exact ldv1 tb rfl (by assumption) | exact ldv1 tb rfl (h0) | exact ldv1 tb rfl (h1) | exact zLd))) | (refine' s_val rfl rfl rfl (r_ldo rfl rfl ?qw (by simp) ?qv) ?_; (case qw => assumption); (case qv => (first | exact ldvL tb rfl rfl | exact ldv1 tb rfl (by assumption) | exact ldv1 tb rfl (h0) | exact ldv1 tb rfl (h1) | exact zLd)))) | (refine s_k 1 rfl ?_; refine zsv (r_assign rfl rfl) ?_) | (refine s_k 13 rfl ?_; first | refine zsv (r_lss rfl rfl rfl) ?_ | refine zsv (r_add rfl rfl rfl zWr) ?_) | (refine s_k 4 rfl ?_; first | refine s_boxA rfl rfl rfl rfl rfl fun blk => ?_ | refine s_box1 rfl rfl rfl rfl rfl rfl fun blk => ?_) | (refine s_k 9 rfl ?_; (first | refine s_st1 tb rfl rfl rfl rfl rfl rfl rfl rfl ?_ | refine s_stA tb rfl rfl rfl rfl zSz rfl rfl ?_); (first | refine' st0 ?qs ?_ | refine' st1 ?qs ?_ | refine' st2 ?qs ?_ | refine' st3 ?qs ?_ | refine' st4 ?qs ?_ | refine' st5 ?qs ?_ | refine' st6 ?qs ?_ | refine' st7 ?qs ?_ | refine' st8 ?qs ?_ | refine' st9 ?qs ?_ | refine' st10 ?qs ?_ | refine' st11 ?qs ?_); (case qs => (first | exact zSet))) | (refine s_k 6 rfl ?_; refine s_bsl rfl rfl (fun w => slSpot0 w) rfl rfl rfl fun blk => ?_) | refine s_nil ?_) | (refine c_g ?_; first | refine c_seq ?_ | refine c_region ?_ | (refine c_gc ?_; first | refine c_cond1 rfl zTr ?_ | refine c_cond0 rfl zTr ?_) | refine c_block ?_ | refine c_skip ?_ | refine c_exit ?_ | refine c_ret ?_) | (refine e_g ?_; first | refine e_then ?_ | refine e_blkn ?_ | refine e_thenx ?_ | refine e_thenr ?_ | refine e_blkr ?_ | refine e_blkx ?_ | refine e_blky rfl ?_))
  rename_i b2
  refine c_loop (ι := Nat × Nat × Nat × Array Value) (fun i => H - i.1) (fun i => i.1 ≤ H ∧ Ap 2 (cellL f W (i.1 * W)).length i.2.2.1 i.2.2.2 (flS (cellL f W (i.1 * W)))) (fun i => [(12, .int .i8 (i.1 : Int)), (11, .int .i8 (H : Int)), (5, .slice (some ⟨i.2.1, 0, none⟩) (cellL f W (i.1 * W)).length i.2.2.1), (2, .pointer (some ⟨b2, 0, none⟩)), (1, .func (.func cf) #[] caps.toArray)]) (fun i => [(i.2.1, 66, i.2.2.2), (b2, 36, cs)]) (0, blk, 0, #[]) ⟨by simp, by simpa [cellL, flS] using Ap.nil 2⟩ ?hs rfl ?_
  case hs => exact sub_cons rfl (sub_cons rfl (sub_cons' rfl (by simp [cellL]) (sub_cons rfl (sub_cons rfl sub_nil))))
  rintro ⟨y, g, cap, cur⟩ ⟨hk, hA⟩
  simp only at hk hA ⊢
  have hbl := cellL_len f W (y * W)
  have hyW : y * W ≤ 10 * 10 := Nat.mul_le_mul (by omega) hW10
  by_cases hlt : y < H
  · repeat' (first | (refine s_g ?_; first | (refine s_k 0 rfl ?_; refine zsv (r_move rfl rfl) ?_) | (refine s_k 23 rfl ?_; first | refine zsv (r_field tb rfl rfl rfl) ?_ | refine zsv (r_fieldS tb rfl rfl rfl) ?_) | (refine s_k 8 rfl ?_; first | (refine' s_val rfl rfl rfl (r_ldv rfl rfl ?qm ?qv) ?_; (case qm => (exact zMm)); (case qv => (first | exact ldvL tb rfl rfl | exact ldv1 tb rfl (by assumption) | exact ldv1 tb rfl (h0) | exact ldv1 tb rfl (h1) | exact zLd))) | (refine' s_val rfl rfl rfl (r_ldo rfl rfl ?qw (by simp) ?qv) ?_; (case qw => assumption); (case qv => (first | exact ldvL tb rfl rfl | exact ldv1 tb rfl (by assumption) | exact ldv1 tb rfl (h0) | exact ldv1 tb rfl (h1) | exact zLd)))) | (refine s_k 1 rfl ?_; refine zsv (r_assign rfl rfl) ?_) | (refine s_k 13 rfl ?_; first | refine zsv (r_lss rfl rfl rfl) ?_ | refine zsv (r_add rfl rfl rfl zWr) ?_) | (refine s_k 4 rfl ?_; first | refine s_boxA rfl rfl rfl rfl rfl fun blk => ?_ | refine s_box1 rfl rfl rfl rfl rfl rfl fun blk => ?_) | (refine s_k 9 rfl ?_; (first | refine s_st1 tb rfl rfl rfl rfl rfl rfl rfl rfl ?_ | refine s_stA tb rfl rfl rfl rfl zSz rfl rfl ?_); (first | refine' st0 ?qs ?_ | refine' st1 ?qs ?_ | refine' st2 ?qs ?_ | refine' st3 ?qs ?_ | refine' st4 ?qs ?_ | refine' st5 ?qs ?_ | refine' st6 ?qs ?_ | refine' st7 ?qs ?_ | refine' st8 ?qs ?_ | refine' st9 ?qs ?_ | refine' st10 ?qs ?_ | refine' st11 ?qs ?_); (case qs => (first | exact zSet))) | refine s_nil ?_) | (refine c_g ?_; first | refine c_seq ?_ | refine c_region ?_ | (refine c_gc ?_; first | refine c_cond1 rfl zTr ?_ | refine c_cond0 rfl zTr ?_) | refine c_block ?_ | refine c_skip ?_ | refine c_exit ?_ | refine c_ret ?_) | (refine e_g ?_; first | refine e_then ?_ | refine e_blkn ?_ | refine e_thenx ?_ | refine e_thenr ?_ | refine e_blkr ?_ | refine e_blkx ?_ | refine e_blky rfl ?_))
    refine c_loop (ι := Nat × Nat × Nat × Array Value) (fun i => W - i.1) (fun i => i.1 ≤ W ∧ Ap 2 (cellL f W (y * W + i.1)).length i.2.2.1 i.2.2.2 (flS (cellL f W (y * W + i.1)))) (fun i => [(17, .int .i8 (i.1 : Int)), (16, .int .i8 (W : Int)), (6, .int .i8 (y : Int)), (12, .int .i8 (y : Int)), (11, .int .i8 (H : Int)), (5, .slice (some ⟨i.2.1, 0, none⟩) (cellL f W (y * W + i.1)).length i.2.2.1), (2, .pointer (some ⟨b2, 0, none⟩)), (1, .func (.func cf) #[] caps.toArray)]) (fun i => [(i.2.1, 66, i.2.2.2), (b2, 36, cs)]) (0, g, cap, cur) ⟨by simp, hA⟩ ?hs rfl ?_
    case hs => exact sub_cons rfl (sub_cons rfl (sub_cons rfl (sub_cons rfl (sub_cons rfl (sub_cons rfl (sub_cons rfl (sub_cons rfl sub_nil)))))))
    rintro ⟨x, g, cap, cur⟩ ⟨hk2, hA⟩
    simp only at hk2 hA ⊢
    have hbx := cellL_len f W (y * W + x)
    by_cases hltx : x < W
    · cases hcan : f ⟨(x : Int), (y : Int)⟩
      case' true => have hb1 := cellL_yes hltx hcan
      case' false => have hb1 := cellL_no hltx hcan
      all_goals
        repeat' (first | (refine s_g ?_; first | (refine s_k 0 rfl ?_; refine zsv (r_move rfl rfl) ?_) | (refine s_k 23 rfl ?_; first | refine zsv (r_field tb rfl rfl rfl) ?_ | refine zsv (r_fieldS tb rfl rfl rfl) ?_) | (refine s_k 8 rfl ?_; first | (refine' s_val rfl rfl rfl (r_ldv rfl rfl ?qm ?qv) ?_; (case qm => (exact zMm)); (case qv => (exact zLe))) | (refine' s_val rfl rfl rfl (r_ldo rfl rfl ?qw (by simp) ?qv) ?_; (case qw => assumption); (case qv => (exact zLe)))) | (refine s_k 1 rfl ?_; refine zsv (r_assign rfl rfl) ?_) | (refine s_k 13 rfl ?_; first | refine zsv (r_lss rfl rfl rfl) ?_ | refine zsv (r_add rfl rfl rfl zWr) ?_) | (refine s_k 35 rfl ?_; refine s_callc hf hname hb rfl rfl rfl rfl rfl rfl (fun w hL => hc x y hltx hlt _ hL.toBelow) ?_) | (refine s_k 4 rfl ?_; first | refine s_boxA rfl rfl rfl rfl rfl fun blk => ?_ | refine s_box1 rfl rfl rfl rfl rfl rfl fun blk => ?_) | (refine s_k 9 rfl ?_; (first | refine s_st1 tb rfl rfl rfl rfl rfl rfl rfl rfl ?_ | refine s_stA tb rfl rfl rfl rfl zSz rfl rfl ?_); (first | refine' st0 ?qs ?_ | refine' st1 ?qs ?_ | refine' st2 ?qs ?_ | refine' st3 ?qs ?_ | refine' st4 ?qs ?_ | refine' st5 ?qs ?_ | refine' st6 ?qs ?_ | refine' st7 ?qs ?_ | refine' st8 ?qs ?_ | refine' st9 ?qs ?_ | refine' st10 ?qs ?_ | refine' st11 ?qs ?_); (case qs => (first | exact zSet))) | (refine s_k 3 rfl ?_; refine s_allocA (t := 66) rfl zImplSpot rfl rfl rfl fun blk => ?_) | (refine s_k 36 rfl ?_; refine s_app1 hA rfl rfl rfl uSpotS iSpot rfl (by omega) (by simp) (by simp) rfl (by simp [Value.oneCell']) (by unfold maxLen; omega) (by omega) rfl rfl rfl fun g cap cur hA => ?_) | (refine s_k 5 rfl ?_; refine zsv (r_build rfl rfl (fun w => bSpot _ _ rfl rfl w)) ?_) | (refine s_k 6 rfl ?_; refine s_bsl rfl rfl (fun w => slSpot1 _ _ w) rfl rfl rfl fun blk => ?_) | refine s_nil ?_) | (refine c_g ?_; first | refine c_seq ?_ | refine c_region ?_ | (refine c_gc ?_; first | refine c_cond1 rfl zTr ?_ | refine c_cond0 rfl zTr ?_) | refine c_block ?_ | refine c_skip ?_ | refine c_exit ?_ | refine c_ret ?_) | (refine e_g ?_; first | refine e_then ?_ | refine e_blkn ?_ | refine e_thenx ?_ | refine e_thenr ?_ | refine e_blkr ?_ | refine e_blkx ?_ | refine e_blky rfl ?_) | refine e_drop0 (e_round (x + 1, g, cap, cur) (by simp; omega) ⟨by simp; omega, ?_⟩ ?hs rfl))
        all_goals first
          | (case hs => rw [hb1]; exact sub_cons' rfl (by simp) (sub_cons rfl (sub_cons rfl (sub_cons rfl (sub_cons rfl (sub_cons' rfl (by simp) (sub_cons rfl (sub_cons rfl sub_nil))))))))
          | (rw [hb1]; first | exact hA | (rw [flS_snoc]; simpa [Sp.cells] using hA))
    · have hxW : x = W := by omega
      subst hxW
      repeat' (first | (refine s_g ?_; first | (refine s_k 0 rfl ?_; refine zsv (r_move rfl rfl) ?_) | (refine s_k 23 rfl ?_; first | refine zsv (r_field tb rfl rfl rfl) ?_ | refine zsv (r_fieldS tb rfl rfl rfl) ?_) | (refine s_k 8 rfl ?_; first | (refine' s_val rfl rfl rfl (r_ldv rfl rfl ?qm ?qv) ?_; (case qm => (exact zMm)); (case qv => (exact zLe))) | (refine' s_val rfl rfl rfl (r_ldo rfl rfl ?qw (by simp) ?qv) ?_; (case qw => assumption); (case qv => (exact zLe)))) | (refine s_k 1 rfl ?_; refine zsv (r_assign rfl rfl) ?_) | (refine s_k 13 rfl ?_; first | refine zsv (r_lss rfl rfl rfl) ?_ | refine zsv (r_add rfl rfl rfl zWr) ?_) | (refine s_k 4 rfl ?_; first | refine s_boxA rfl rfl rfl rfl rfl fun blk => ?_ | refine s_box1 rfl rfl rfl rfl rfl rfl fun blk => ?_) | (refine s_k 9 rfl ?_; (first | refine s_st1 tb rfl rfl rfl rfl rfl rfl rfl rfl ?_ | refine s_stA tb rfl rfl rfl rfl zSz rfl rfl ?_); (first | refine' st0 ?qs ?_ | refine' st1 ?qs ?_ | refine' st2 ?qs ?_ | refine' st3 ?qs ?_ | refine' st4 ?qs ?_ | refine' st5 ?qs ?_ | refine' st6 ?qs ?_ | refine' st7 ?qs ?_ | refine' st8 ?qs ?_ | refine' st9 ?qs ?_ | refine' st10 ?qs ?_ | refine' st11 ?qs ?_); (case qs => (first | exact zSet))) | refine s_nil ?_) | (refine c_g ?_; first | refine c_seq ?_ | refine c_region ?_ | (refine c_gc ?_; first | refine c_cond1 rfl zTr ?_ | refine c_cond0 rfl zTr ?_) | refine c_block ?_ | refine c_skip ?_ | refine c_exit ?_ | refine c_ret ?_) | (refine e_g ?_; first | refine e_then ?_ | refine e_blkn ?_ | refine e_thenx ?_ | refine e_thenr ?_ | refine e_blkr ?_ | refine e_blkx ?_ | refine e_blky rfl ?_) | refine e_round (y + 1, g, cap, cur) (by simp; omega) ⟨by simp; omega, ?_⟩ ?hs rfl)
      all_goals first
        | (case hs => rw [Nat.succ_mul]; exact sub_cons' rfl (by simp) (sub_cons rfl (sub_cons rfl (sub_cons rfl (sub_cons rfl sub_nil)))))
        | (rw [Nat.succ_mul]; exact hA)
  · have hyH : y = H := by omega
    subst hyH
    repeat' (first | (refine s_g ?_; first | (refine s_k 0 rfl ?_; refine zsv (r_move rfl rfl) ?_) | (refine s_k 23 rfl ?_; first | refine zsv (r_field tb rfl rfl rfl) ?_ | refine zsv (r_fieldS tb rfl rfl rfl) ?_) | (refine s_k 8 rfl ?_; first | (refine' s_val rfl rfl rfl (r_ldv rfl rfl ?qm ?qv) ?_; (case qm => (exact zMm)); (case qv => (exact zLe))) | (refine' s_val rfl rfl rfl (r_ldo rfl rfl ?qw (by simp) ?qv) ?_; (case qw => assumption); (case qv => (exact zLe)))) | (refine s_k 1 rfl ?_; refine zsv (r_assign rfl rfl) ?_) | (refine s_k 13 rfl ?_; first | refine zsv (r_lss rfl rfl rfl) ?_ | refine zsv (r_add rfl rfl rfl zWr) ?_) | (refine s_k 4 rfl ?_; first | refine s_boxA rfl rfl rfl rfl rfl fun blk => ?_ | refine s_box1 rfl rfl rfl rfl rfl rfl fun blk => ?_) | (refine s_k 9 rfl ?_; (first | refine s_st1 tb rfl rfl rfl rfl rfl rfl rfl rfl ?_ | refine s_stA tb rfl rfl rfl rfl zSz rfl rfl ?_); (first | refine' st0 ?qs ?_ | refine' st1 ?qs ?_ | refine' st2 ?qs ?_ | refine' st3 ?qs ?_ | refine' st4 ?qs ?_ | refine' st5 ?qs ?_ | refine' st6 ?qs ?_ | refine' st7 ?qs ?_ | refine' st8 ?qs ?_ | refine' st9 ?qs ?_ | refine' st10 ?qs ?_ | refine' st11 ?qs ?_); (case qs => (first | exact zSet))) | refine s_nil ?_) | (refine c_g ?_; first | refine c_seq ?_ | refine c_region ?_ | (refine c_gc ?_; first | refine c_cond1 rfl zTr ?_ | refine c_cond0 rfl zTr ?_) | refine c_block ?_ | refine c_skip ?_ | refine c_exit ?_ | refine c_ret ?_) | (refine e_g ?_; first | refine e_then ?_ | refine e_blkn ?_ | refine e_thenx ?_ | refine e_thenr ?_ | refine e_blkr ?_ | refine e_blkx ?_ | refine e_blky rfl ?_) | (refine e_ret1 (by simp) rfl (re_tmp rfl) fun w hL => NewS.of hA hL m0))
set_option maxRecDepth 100000 in
theorem allC_any (x y : Int) (w : World) :
    Calls Try.prog 123 #[.agg #[.int .i8 x, .int .i8 y]] w fun e w' => e = .returned (.bool true) ∧ Below w.heap.size w w' := by
  refine enter1 Try.func123 rfl rfl rfl (Own.start w) ?_
  repeat' (first | (refine s_g ?_; first | (refine s_k 1 rfl ?_; refine zsv (r_assign rfl rfl) ?_) | (refine s_k 4 rfl ?_; first | refine s_boxA rfl rfl rfl rfl rfl fun blk => ?_ | refine s_box1 rfl rfl rfl rfl rfl rfl fun blk => ?_) | refine s_nil ?_) | (refine c_g ?_; first | refine c_seq ?_ | refine c_region ?_ | (refine c_gc ?_; first | refine c_cond1 rfl zTr ?_ | refine c_cond0 rfl zTr ?_) | refine c_block ?_ | refine c_skip ?_ | refine c_exit ?_ | refine c_ret ?_) | (refine e_g ?_; first | refine e_then ?_ | refine e_blkn ?_ | refine e_thenx ?_ | refine e_thenr ?_ | refine e_blkr ?_ | refine e_blkx ?_ | refine e_blky rfl ?_) | (refine e_ret1 (by simp) rfl (re_tmp rfl) fun w hL => ⟨rfl, hL.toBelow⟩))
def allL (W H : Nat) : List Sp := (List.range (H * W)).map (cellN W)
theorem allL_len (W H : Nat) : (allL W H).length = H * W := by simp [allL]
set_option maxRecDepth 100000 in
theorem all_any (p : Nat → Int) (cs : Array Value) (W H : Nat) (w : World) (hp : Pv p cs) (hW : p 0 = (W : Int)) (hH : p 1 = (H : Int)) (hW10 : W ≤ 10) (hH10 : H ≤ 10) :
    Calls Try.prog 68 #[.agg cs] w (NewS 66 2 (flS (allL W H)) w) := by
  have hsz := hp.size
  refine enter1 Try.func68 rfl rfl rfl (Own.start w) ?_
  repeat' (first | (refine s_g ?_; first | (refine s_k 8 rfl ?_; first | (refine' s_val rfl rfl rfl (r_ldv rfl rfl ?qm ?qv) ?_; (case qm => (exact zMm)); (case qv => (exact zLe))) | (refine' s_val rfl rfl rfl (r_ldo rfl rfl ?qw (by simp) ?qv) ?_; (case qw => assumption); (case qv => (exact zLe)))) | (refine s_k 1 rfl ?_; refine zsv (r_assign rfl rfl) ?_) | (refine s_k 35 rfl ?_; (refine s_callN Try.func122 (by kernel_rfl) rfl rfl rfl rfl rfl rfl (fun w hL => cells_any p cs W H 123 _ [] (fun _ => true) w hp hW hH hW10 hH10 Try.func123 (by kernel_rfl) rfl (fun x y hx hy w' hb => allC_any _ _ _)) fun g k cap cur hA => ?_)) | (refine s_k 4 rfl ?_; first | refine s_boxA rfl rfl rfl rfl rfl fun blk => ?_ | refine s_box1 rfl rfl rfl rfl rfl rfl fun blk => ?_) | refine s_nil ?_) | (refine c_g ?_; first | refine c_seq ?_ | refine c_region ?_ | (refine c_gc ?_; first | refine c_cond1 rfl zTr ?_ | refine c_cond0 rfl zTr ?_) | refine c_block ?_ | refine c_skip ?_ | refine c_exit ?_ | refine c_ret ?_) | (refine e_g ?_; first | refine e_then ?_ | refine e_blkn ?_ | refine e_thenx ?_ | refine e_thenr ?_ | refine e_blkr ?_ | refine e_blkx ?_ | refine e_blky rfl ?_) | (refine e_ret1 (by simp) rfl (re_tmp rfl) fun w hL => by rw [cellL_all] at hA; exact NewS.of hA hL m0))
end Go.Proofs.Ytnfdefeafhepkaa
namespace Go.Proofs.Ytnfdefeafhepkaa

theorem cellL_mem {f : Sp → Bool} {W H : Nat} {c : Sp} (h : c ∈ cellL f W (H * W)) : f c = true ∧ 0 ≤ c.x ∧ c.x < W ∧ 0 ≤ c.y ∧ c.y < H := by
  unfold cellL at h
  obtain ⟨h1, h2⟩ := List.mem_filter.1 h
  obtain ⟨k, hk, rfl⟩ := List.mem_map.1 h1
  have hk := List.mem_range.1 hk
  have hW : 0 < W := by
    rcases Nat.eq_zero_or_pos W with e | e
    · subst e; simp at hk
    · exact e
  have h3 := Nat.mod_lt k hW
  have h4 : k / W < H := (Nat.div_lt_iff_lt_mul hW).2 hk
  refine ⟨h2, ?_⟩
  unfold cellN; simp only
  generalize k % W = a at *
  generalize k / W = b at *
  omega
theorem cellL_in {f : Sp → Bool} {W H : Nat} {c : Sp} (hf : f c = true) (hx : 0 ≤ c.x ∧ c.x < W) (hy : 0 ≤ c.y ∧ c.y < H) : c ∈ cellL f W (H * W) := by
  obtain ⟨x, y⟩ := c
  obtain ⟨a, rfl⟩ : ∃ a : Nat, x = (a : Int) := ⟨x.toNat, by simp only at hx; omega⟩
  obtain ⟨b, rfl⟩ : ∃ b : Nat, y = (b : Int) := ⟨y.toNat, by simp only at hy; omega⟩
  simp only at hx hy
  have ha : a < W := by omega
  have hb : b < H := by omega
  unfold cellL
  refine List.mem_filter.2 ⟨List.mem_map.2 ⟨b * W + a, List.mem_range.2 ?_, cellN_at b ha⟩, hf⟩
  calc b * W + a < b * W + W := by omega
    _ = (b + 1) * W := (Nat.succ_mul b W).symm
    _ ≤ H * W := Nat.mul_le_mul_right W (by omega)
end Go.Proofs.Ytnfdefeafhepkaa
