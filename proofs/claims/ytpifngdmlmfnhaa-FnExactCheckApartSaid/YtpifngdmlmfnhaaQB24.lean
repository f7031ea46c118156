import Derived.Test.YtpifngdmlmfnhaaQB16
import Derived.Test.YtpifngdmlmfnhaaQB20
import Derived.Test.YtpifngdmlmfnhaaQB21
import Derived.Test.YtpifngdmlmfnhaaQB23
/- Tables of flags; a look at the program's table of steps; the cells of a table of flags. No condition. -/
namespace Go.Proofs.Ytpifngdmlmfnhaa
set_option linter.unusedVariables false
set_option linter.unusedSimpArgs false
open Go.RowKit Mem Wk
attribute [local irreducible] Calls Wk.S Wk.C Wk.E Wk.X Wk.T Wk.Y Wk.andV Wk.shrV Calm.wpLex CalmB.wpLex bfsN
/-- A table of 100 flags. -/
structure GB (f : Nat → Bool) (cs : Array Value) : Prop where
  size : cs.size = 100
  get : ∀ j, j < 100 → cs[j]? = some (.bool (f j))
theorem GB.at_ {f : Nat → Bool} {cs : Array Value} (h : GB f cs) {x y : Nat} (hx : x < 10) (hy : y < 10) : cs[0 + y * 10 + x * 1]? = some (.bool (f (ci ⟨(x : Int), (y : Int)⟩))) := by
  have e : 0 + y * 10 + x * 1 = ci ⟨(x : Int), (y : Int)⟩ := by unfold ci; simp
  rw [e]; exact h.get _ (ci_lt ⟨by show (0 : Int) ≤ (x : Int); omega, by show (x : Int) < 10; omega, by show (0 : Int) ≤ (y : Int); omega, by show (y : Int) < 10; omega⟩)
theorem GB.one {f : Nat → Bool} {cs : Array Value} (h : GB f cs) : ∀ u ∈ cs.toList, u.oneCell' = true := by
  intro u hu
  obtain ⟨j, hj⟩ := List.mem_iff_getElem?.1 hu
  rw [Array.getElem?_toList] at hj
  have hlt := (Array.getElem?_eq_some_iff.1 hj).1
  rw [h.size] at hlt
  rw [h.get j hlt] at hj
  injection hj with hj; subst hj; rfl
theorem GB.uniq {f : Nat → Bool} {a b : Array Value} (h : GB f a) (h' : GB f b) : a = b := by
  apply Array.ext (by rw [h.size, h'.size])
  intro i h1 h2
  have e1 := h.get i (by rw [h.size] at h1; exact h1)
  have e2 := h'.get i (by rw [h'.size] at h2; exact h2)
  rw [Array.getElem?_eq_getElem h1] at e1
  rw [Array.getElem?_eq_getElem h2] at e2
  injection e1 with e1; injection e2 with e2; rw [e1, e2]
theorem GB.congr {f g : Nat → Bool} {cs : Array Value} (h : GB f cs) (he : ∀ j, j < 100 → f j = g j) : GB g cs := ⟨h.size, fun j hj => by rw [← he j hj]; exact h.get j hj⟩
theorem setB {f : Nat → Bool} {c cs : Array Value} (h : GB f cs) (hc : c.size = 100) : Wk.Set c 0 cs cs := set_whole (by rw [h.size, hc]) h.one
def gbA (f : Nat → Bool) : Array Value := ((List.range 100).map fun j => Value.bool (f j)).toArray
theorem gbA_ok (f : Nat → Bool) : GB f (gbA f) := ⟨by simp [gbA], fun j hj => by simp [gbA, hj]⟩
def zFl : Array Value := (List.replicate 100 (Value.bool false)).toArray
theorem zFl_ok : GB (fun _ => false) zFl := ⟨by kernel_rfl, fun j hj => by
  show (List.replicate 100 (Value.bool false)).toArray[j]? = _
  rw [List.getElem?_toArray, List.getElem?_replicate, if_pos hj]⟩
theorem zF1010 : (Try.prog.info? 158).map (·.zero) = some (some (.agg zFl)) := by kernel_rfl
theorem bF1010 (w : World) : (Instr.build 158 #[]).run Try.prog w = .ok (.agg zFl) w := by kernel_rfl
/-- the first n places of a table of flags -/
def upto (f : Nat → Bool) (n : Nat) : Nat → Bool := fun j => decide (j < n) && f j
theorem GB.put {f : Nat → Bool} {cs : Array Value} {x y : Nat} {b : Bool} (h : GB (upto f (y * 10 + x)) cs) (hx : x < 10) (hy : y < 10) (hb : b = f (ci ⟨(x : Int), (y : Int)⟩)) : GB (upto f (y * 10 + (x + 1))) (cs.setIfInBounds (0 + y * 10 + x * 1) (.bool b)) := by
  have e : 0 + y * 10 + x * 1 = y * 10 + x := by omega
  have e2 : ci ⟨(x : Int), (y : Int)⟩ = y * 10 + x := by unfold ci; simp
  rw [e]; rw [e2] at hb; subst hb
  refine ⟨by simp [h.size], fun j hj => ?_⟩
  by_cases ej : j = y * 10 + x
  · subst ej
    have hs := h.size
    simp [hs, hj, upto]
  · rw [Array.getElem?_setIfInBounds_ne (by omega), h.get j hj]
    show some (Value.bool (decide (j < y * 10 + x) && f j)) = some (Value.bool (decide (j < y * 10 + (x + 1)) && f j))
    rw [show decide (j < y * 10 + x) = decide (j < y * 10 + (x + 1)) from decide_eq_decide.2 (by omega)]
set_option maxRecDepth 100000 in
theorem farAt_any (D : Nat → Int) (tab : Array Value) (T : TypeId) (g : Nat) (x y : Int) (w : World) (hT : GI .i16 1 D tab) (hD : ∀ j, 0 ≤ D j ∧ D j ≤ 101) (hg : w.heap[g]? = some (.cells tab T (0, 0))) (hx : 0 ≤ x ∧ x < 10) (hy : 0 ≤ y ∧ y < 10) :
    Calls Try.prog 140 #[.pointer (some ⟨g, 0, none⟩), .agg #[.int .i8 x, .int .i8 y]] w fun e w' => e = .returned (.int .i64 (D (ci ⟨x, y⟩) - 1)) ∧ Below w.heap.size w w' := by
  have hb := hD (ci ⟨x, y⟩)
  refine enter2 Try.func140 rfl rfl rfl (Own.start w) ?_
  repeat' (first
    | (refine s_g ?_; first
      | (refine s_k 0 rfl ?_; refine s_val rfl rfl rfl (r_move rfl rfl) ?_)
      | (refine s_k 23 rfl ?_; first | refine s_val rfl rfl rfl (r_field tb rfl rfl rfl) ?_ | refine s_val rfl rfl rfl (r_fieldS tb rfl rfl rfl) ?_)
      | (refine s_k 8 rfl ?_; first | (refine' s_val rfl rfl rfl (r_ldv rfl rfl ?qm ?qv) ?_; (case qm => (exact zMm)); (case qv => (first | exact ldvL tb rfl rfl | exact ldv1 tb rfl (by assumption) | exact ldv1 tb rfl (hT.at_ hx hy) | exact zLd))) | (refine' s_val rfl rfl rfl (r_ldo rfl rfl ?qw (by simp) ?qv) ?_; (case qw => assumption); (case qv => (first | exact ldvL tb rfl rfl | exact ldv1 tb rfl (by assumption) | exact ldv1 tb rfl (hT.at_ hx hy) | exact zLd))))
      | (refine s_k 1 rfl ?_; refine s_val rfl rfl rfl (r_assign rfl rfl) ?_)
      | (refine s_k 15 rfl ?_; refine s_val rfl rfl rfl (r_conv tb rfl rfl rfl rfl (wrap_in (by simp only [lo, hi]; omega))) ?_)
      | (refine s_k 25 rfl ?_; first | refine s_val rfl rfl rfl (r_ixN tb rfl rfl rfl rfl (by omega)) ?_ | refine s_val rfl rfl rfl (r_ixA tb rfl rfl rfl rfl (by omega) (by omega)) ?_ | refine s_val rfl rfl rfl (r_ixO tb rfl rfl rfl rfl (by omega)) ?_)
      | (refine s_k 4 rfl ?_; first | refine s_boxA rfl rfl rfl rfl rfl fun blk => ?_ | refine s_box1 rfl rfl rfl rfl rfl rfl fun blk => ?_)
      | (refine s_k 12 rfl ?_; refine s_val rfl rfl rfl (r_nil rfl rfl) ?_)
      | refine s_nil ?_)
    | (refine c_g ?_; first | refine c_seq ?_ | refine c_region ?_ | (refine c_gc ?_; first | refine c_cond1 rfl zTr ?_ | refine c_cond0 rfl zTr ?_ | refine z_condd1 rfl ?_ | refine z_condd0 rfl ?_ | refine z_conddn1 rfl ?_ | refine z_conddn0 rfl ?_ | refine c_condd rfl (fun hc => ?_) (fun hc => ?_) | refine c_conddn rfl (fun hc => ?_) (fun hc => ?_) | refine c_condn rfl (fun hc => ?_) (fun hc => ?_) | refine c_cond rfl (fun hc => ?_) (fun hc => ?_)) | refine c_block ?_ | refine c_skip ?_ | refine c_exit ?_ | refine c_ret ?_)
    | (refine e_g ?_; first | refine e_then ?_ | refine e_blkn ?_ | refine e_thenx ?_ | refine e_thenr ?_ | refine e_blkr ?_ | refine e_blkx ?_ | refine e_blky rfl ?_)
    | (refine x_g ?_; first
      | (refine x_k 0 rfl ?_; (refine x_val rfl rfl rfl (r_move rfl rfl) ?hp ?_; (case hp => exact rfl)))
      | (refine x_k 23 rfl ?_; first | (refine x_val rfl rfl rfl (r_field tb rfl rfl rfl) ?hp ?_; (case hp => exact rfl)) | (refine x_val rfl rfl rfl (r_fieldS tb rfl rfl rfl) ?hp ?_; (case hp => exact rfl)))
      | (refine x_k 8 rfl ?_; first | (refine' x_val rfl rfl rfl (r_ldv rfl rfl ?qm ?qv) ?hp ?_; (case qm => (exact zMm)); (case qv => (first | exact ldvL tb rfl rfl | exact ldv1 tb rfl (by assumption) | exact ldv1 tb rfl (hT.at_ hx hy) | exact zLd)); (case hp => exact rfl)) | (refine' x_val rfl rfl rfl (r_ldo rfl rfl ?qw (by simp) ?qv) ?hp ?_; (case qw => assumption); (case qv => (first | exact ldvL tb rfl rfl | exact ldv1 tb rfl (by assumption) | exact ldv1 tb rfl (hT.at_ hx hy) | exact zLd)); (case hp => exact rfl)))
      | (refine x_k 1 rfl ?_; (refine x_val rfl rfl rfl (r_assign rfl rfl) ?hp ?_; (case hp => exact rfl)))
      | (refine x_k 15 rfl ?_; (refine x_val rfl rfl rfl (r_conv tb rfl rfl rfl rfl (wrap_in (by simp only [lo, hi]; omega))) ?hp ?_; (case hp => exact rfl)))
      | (refine x_k 25 rfl ?_; first | (refine x_val rfl rfl rfl (r_ixN tb rfl rfl rfl rfl (by omega)) ?hp ?_; (case hp => exact rfl)) | (refine x_val rfl rfl rfl (r_ixA tb rfl rfl rfl rfl (by omega) (by omega)) ?hp ?_; (case hp => exact rfl)) | (refine x_val rfl rfl rfl (r_ixO tb rfl rfl rfl rfl (by omega)) ?hp ?_; (case hp => exact rfl)))
      | (refine x_k 4 rfl ?_; (refine x_boxA rfl rfl rfl rfl rfl ?hp (fun blk => ?_); (case hp => exact rfl)))
      | (refine x_k 12 rfl ?_; (refine x_val rfl rfl rfl (r_nil rfl rfl) ?hp ?_; (case hp => exact rfl)))
      | refine x_nil0 ?_
      | refine x_nil ?_)
    | (refine' c_drawX (id := 1) [(Sum.inl _ : Calm.Plan), (Sum.inl _ : Calm.Plan), (Sum.inl _ : Calm.Plan), (Sum.inl _ : Calm.Plan), (Sum.inl _ : Calm.Plan), (Sum.inl _ : Calm.Plan), (Sum.inl _ : Calm.Plan), (Sum.inl _ : Calm.Plan), (Sum.inl _ : Calm.Plan), (Sum.inl _ : Calm.Plan), (Sum.inl _ : Calm.Plan)] (by kernel_rfl) (by kernel_rfl) (by kernel_rfl) ?_)
    | (refine e_ret1 (by simp) rfl (re_tmp rfl) fun w hL => ⟨rfl, hL.toBelow⟩))
set_option maxRecDepth 100000 in
set_option maxHeartbeats 800000 in
theorem l05List_any (f : Nat → Bool) (cs : Array Value) (T : TypeId) (gp : Nat) (w : World) (hf : GB f cs) (hg : w.heap[gp]? = some (.cells cs T (0, 0))) :
    Calls Try.prog 196 #[.pointer (some ⟨gp, 0, none⟩)] w (NewS 88 2 (flS (cellL (fun c => f (ci c)) 10 (10 * 10))) w) := by
  refine enter1 Try.func196 rfl rfl rfl (Own.start w) ?_
  repeat' (first
    | (refine s_g ?_; first
      | (refine s_k 0 rfl ?_; refine s_val rfl rfl rfl (r_move rfl rfl) ?_)
      | (refine s_k 8 rfl ?_; first | (refine' s_val rfl rfl rfl (r_ldv rfl rfl ?qm ?qv) ?_; (case qm => (exact zMm)); (case qv => (exact zLe))) | (refine' s_val rfl rfl rfl (r_ldo rfl rfl ?qw (by simp) ?qv) ?_; (case qw => assumption); (case qv => (exact zLe))))
      | (refine s_k 1 rfl ?_; refine s_val rfl rfl rfl (r_assign rfl rfl) ?_)
      | (refine s_k 13 rfl ?_; first | refine s_val rfl rfl rfl (r_lss rfl rfl rfl) ?_ | refine s_val rfl rfl rfl (r_add rfl rfl rfl (wrap_in (by simp only [lo, hi]; omega))) ?_)
      | (refine s_k 25 rfl ?_; first | refine s_val rfl rfl rfl (r_ixN tb rfl rfl rfl rfl (by omega)) ?_ | refine s_val rfl rfl rfl (r_ixA tb rfl rfl rfl rfl (by omega) (by omega)) ?_ | refine s_val rfl rfl rfl (r_ixO tb rfl rfl rfl rfl (by omega)) ?_)
      | (refine s_k 12 rfl ?_; refine s_val rfl rfl rfl (r_nil rfl rfl) ?_)
      | (refine s_k 6 rfl ?_; refine s_bsl rfl rfl (fun w => slSpot0 w) rfl rfl rfl fun blk => ?_)
      | refine s_nil ?_)
    | (refine c_g ?_; first | refine c_seq ?_ | refine c_region ?_ | (refine c_gc ?_; first | refine c_cond1 rfl zTr ?_ | refine c_cond0 rfl zTr ?_ | refine z_condd1 rfl ?_ | refine z_condd0 rfl ?_ | refine z_conddn1 rfl ?_ | refine z_conddn0 rfl ?_ | refine c_condd rfl (fun hc => ?_) (fun hc => ?_) | refine c_conddn rfl (fun hc => ?_) (fun hc => ?_) | refine c_condn rfl (fun hc => ?_) (fun hc => ?_) | refine c_cond rfl (fun hc => ?_) (fun hc => ?_)) | refine c_block ?_ | refine c_skip ?_ | refine c_exit ?_ | refine c_ret ?_)
    | (refine e_g ?_; first | refine e_then ?_ | refine e_blkn ?_ | refine e_thenx ?_ | refine e_thenr ?_ | refine e_blkr ?_ | refine e_blkx ?_ | refine e_blky rfl ?_))
  refine c_loop (ι := Nat × Nat × Nat × Array Value) (fun i => 10 - i.1) (fun i => i.1 ≤ 10 ∧ Ap 2 (cellL (fun c => f (ci c)) 10 (i.1 * 10)).length i.2.2.1 i.2.2.2 (flS (cellL (fun c => f (ci c)) 10 (i.1 * 10)))) (fun i => [(4, .int .i8 (i.1 : Int)), (3, .slice (some ⟨i.2.1, 0, none⟩) (cellL (fun c => f (ci c)) 10 (i.1 * 10)).length i.2.2.1), (0, .pointer (some ⟨gp, 0, none⟩))]) (fun i => [(i.2.1, 88, i.2.2.2)]) (0, blk, 0, #[]) ⟨by simp, by simpa [cellL, flS] using Ap.nil 2⟩ ?hs rfl ?_
  case hs => exact sub_cons rfl (sub_cons' rfl (by simp [cellL]) (sub_cons rfl sub_nil))
  rintro ⟨y, g, cap, cur⟩ ⟨hk, hA⟩
  simp only at hk hA ⊢
  have hbl := cellL_len (fun c => f (ci c)) 10 (y * 10)
  by_cases hlt : y < 10
  · repeat' (first
      | (refine s_g ?_; first
      | (refine s_k 0 rfl ?_; refine s_val rfl rfl rfl (r_move rfl rfl) ?_)
      | (refine s_k 8 rfl ?_; first | (refine' s_val rfl rfl rfl (r_ldv rfl rfl ?qm ?qv) ?_; (case qm => (exact zMm)); (case qv => (exact zLe))) | (refine' s_val rfl rfl rfl (r_ldo rfl rfl ?qw (by simp) ?qv) ?_; (case qw => assumption); (case qv => (exact zLe))))
      | (refine s_k 1 rfl ?_; refine s_val rfl rfl rfl (r_assign rfl rfl) ?_)
      | (refine s_k 13 rfl ?_; first | refine s_val rfl rfl rfl (r_lss rfl rfl rfl) ?_ | refine s_val rfl rfl rfl (r_add rfl rfl rfl (wrap_in (by simp only [lo, hi]; omega))) ?_)
      | (refine s_k 25 rfl ?_; first | refine s_val rfl rfl rfl (r_ixN tb rfl rfl rfl rfl (by omega)) ?_ | refine s_val rfl rfl rfl (r_ixA tb rfl rfl rfl rfl (by omega) (by omega)) ?_ | refine s_val rfl rfl rfl (r_ixO tb rfl rfl rfl rfl (by omega)) ?_)
      | (refine s_k 12 rfl ?_; refine s_val rfl rfl rfl (r_nil rfl rfl) ?_)
      | refine s_nil ?_)
      | (refine c_g ?_; first | refine c_seq ?_ | refine c_region ?_ | (refine c_gc ?_; first | refine c_cond1 rfl zTr ?_ | refine c_cond0 rfl zTr ?_ | refine z_condd1 rfl ?_ | refine z_condd0 rfl ?_ | refine z_conddn1 rfl ?_ | refine z_conddn0 rfl ?_ | refine c_condd rfl (fun hc => ?_) (fun hc => ?_) | refine c_conddn rfl (fun hc => ?_) (fun hc => ?_) | refine c_condn rfl (fun hc => ?_) (fun hc => ?_) | refine c_cond rfl (fun hc => ?_) (fun hc => ?_)) | refine c_block ?_ | refine c_skip ?_ | refine c_exit ?_ | refine c_ret ?_)
      | (refine e_g ?_; first | refine e_then ?_ | refine e_blkn ?_ | refine e_thenx ?_ | refine e_thenr ?_ | refine e_blkr ?_ | refine e_blkx ?_ | refine e_blky rfl ?_))
    refine c_loop (ι := Nat × Nat × Nat × Array Value) (fun i => 10 - i.1) (fun i => i.1 ≤ 10 ∧ Ap 2 (cellL (fun c => f (ci c)) 10 (y * 10 + i.1)).length i.2.2.1 i.2.2.2 (flS (cellL (fun c => f (ci c)) 10 (y * 10 + i.1)))) (fun i => [(5, .int .i8 (i.1 : Int)), (4, .int .i8 (y : Int)), (3, .slice (some ⟨i.2.1, 0, none⟩) (cellL (fun c => f (ci c)) 10 (y * 10 + i.1)).length i.2.2.1), (0, .pointer (some ⟨gp, 0, none⟩))]) (fun i => [(i.2.1, 88, i.2.2.2)]) (0, g, cap, cur) ⟨by simp, hA⟩ ?hs rfl ?_
    case hs => (repeat' (first | exact sub_nil | refine sub_cons rfl ?_))
    rintro ⟨x, g, cap, cur⟩ ⟨hk2, hA⟩
    simp only at hk2 hA ⊢
    have hbx := cellL_len (fun c => f (ci c)) 10 (y * 10 + x)
    by_cases hltx : x < 10
    · have hld := hf.at_ hltx hlt
      cases hcan : f (ci ⟨(x : Int), (y : Int)⟩)
      case' true => have hb1 := cellL_yes (f := fun c => f (ci c)) hltx hcan
      case' false => have hb1 := cellL_no (f := fun c => f (ci c)) hltx hcan
      all_goals
        rw [hcan] at hld
        repeat' (first
          | (refine s_g ?_; first
      | (refine s_k 0 rfl ?_; refine s_val rfl rfl rfl (r_move rfl rfl) ?_)
      | (refine s_k 8 rfl ?_; first | (refine' s_val rfl rfl rfl (r_ldv rfl rfl ?qm ?qv) ?_; (case qm => (exact zMm)); (case qv => (first | exact ldvL tb rfl rfl | exact ldv1 tb rfl (by assumption) | exact ldv1 tb rfl (hld) | exact zLd))) | (refine' s_val rfl rfl rfl (r_ldo rfl rfl ?qw (by simp) ?qv) ?_; (case qw => assumption); (case qv => (first | exact ldvL tb rfl rfl | exact ldv1 tb rfl (by assumption) | exact ldv1 tb rfl (hld) | exact zLd))))
      | (refine s_k 1 rfl ?_; refine s_val rfl rfl rfl (r_assign rfl rfl) ?_)
      | (refine s_k 13 rfl ?_; first | refine s_val rfl rfl rfl (r_lss rfl rfl rfl) ?_ | refine s_val rfl rfl rfl (r_add rfl rfl rfl (wrap_in (by simp only [lo, hi]; omega))) ?_)
      | (refine s_k 25 rfl ?_; first | refine s_val rfl rfl rfl (r_ixN tb rfl rfl rfl rfl (by omega)) ?_ | refine s_val rfl rfl rfl (r_ixA tb rfl rfl rfl rfl (by omega) (by omega)) ?_ | refine s_val rfl rfl rfl (r_ixO tb rfl rfl rfl rfl (by omega)) ?_)
      | (refine s_k 36 rfl ?_; refine s_app0 hA rfl rfl rfl uSpotS iSpot rfl (by omega) (by simp) (by simp) rfl (by simp [Value.oneCell']) (by unfold maxLen; omega) (by omega) rfl rfl rfl fun g cap cur hA => ?_)
      | (refine s_k 12 rfl ?_; refine s_val rfl rfl rfl (r_nil rfl rfl) ?_)
      | (refine s_k 5 rfl ?_; refine s_val rfl rfl rfl (r_build rfl rfl (fun w => bSpot _ _ rfl rfl w)) ?_)
      | (refine s_k 6 rfl ?_; refine s_bsl rfl rfl (fun w => slSpot1 _ _ w) rfl rfl rfl fun blk => ?_)
      | refine s_nil ?_)
          | (refine c_g ?_; first | refine c_seq ?_ | refine c_region ?_ | (refine c_gc ?_; first | refine c_cond1 rfl zTr ?_ | refine c_cond0 rfl zTr ?_ | refine z_condd1 rfl ?_ | refine z_condd0 rfl ?_ | refine z_conddn1 rfl ?_ | refine z_conddn0 rfl ?_ | refine c_condd rfl (fun hc => ?_) (fun hc => ?_) | refine c_conddn rfl (fun hc => ?_) (fun hc => ?_) | refine c_condn rfl (fun hc => ?_) (fun hc => ?_) | refine c_cond rfl (fun hc => ?_) (fun hc => ?_)) | refine c_block ?_ | refine c_skip ?_ | refine c_exit ?_ | refine c_ret ?_)
          | (refine e_g ?_; first | refine e_then ?_ | refine e_blkn ?_ | refine e_thenx ?_ | refine e_thenr ?_ | refine e_blkr ?_ | refine e_blkx ?_ | refine e_blky rfl ?_)
          | refine e_round (x + 1, g, cap, cur) (by simp; omega) ⟨by simp; omega, ?_⟩ ?_ rfl)
        all_goals first
          | (rw [hb1]; exact sub_cons' rfl (by simp) (sub_cons rfl (sub_cons' rfl (by simp) (sub_cons rfl sub_nil))))
          | (rw [hb1]; first | exact hA | (rw [flS_snoc]; simpa [Sp.cells] using hA))
    · have hxW : x = 10 := by omega
      subst hxW
      repeat' (first
        | (refine s_g ?_; first
      | (refine s_k 0 rfl ?_; refine s_val rfl rfl rfl (r_move rfl rfl) ?_)
      | (refine s_k 8 rfl ?_; first | (refine' s_val rfl rfl rfl (r_ldv rfl rfl ?qm ?qv) ?_; (case qm => (exact zMm)); (case qv => (exact zLe))) | (refine' s_val rfl rfl rfl (r_ldo rfl rfl ?qw (by simp) ?qv) ?_; (case qw => assumption); (case qv => (exact zLe))))
      | (refine s_k 1 rfl ?_; refine s_val rfl rfl rfl (r_assign rfl rfl) ?_)
      | (refine s_k 13 rfl ?_; first | refine s_val rfl rfl rfl (r_lss rfl rfl rfl) ?_ | refine s_val rfl rfl rfl (r_add rfl rfl rfl (wrap_in (by simp only [lo, hi]; omega))) ?_)
      | (refine s_k 25 rfl ?_; first | refine s_val rfl rfl rfl (r_ixN tb rfl rfl rfl rfl (by omega)) ?_ | refine s_val rfl rfl rfl (r_ixA tb rfl rfl rfl rfl (by omega) (by omega)) ?_ | refine s_val rfl rfl rfl (r_ixO tb rfl rfl rfl rfl (by omega)) ?_)
      | (refine s_k 12 rfl ?_; refine s_val rfl rfl rfl (r_nil rfl rfl) ?_)
      | refine s_nil ?_)
        | (refine c_g ?_; first | refine c_seq ?_ | refine c_region ?_ | (refine c_gc ?_; first | refine c_cond1 rfl zTr ?_ | refine c_cond0 rfl zTr ?_ | refine z_condd1 rfl ?_ | refine z_condd0 rfl ?_ | refine z_conddn1 rfl ?_ | refine z_conddn0 rfl ?_ | refine c_condd rfl (fun hc => ?_) (fun hc => ?_) | refine c_conddn rfl (fun hc => ?_) (fun hc => ?_) | refine c_condn rfl (fun hc => ?_) (fun hc => ?_) | refine c_cond rfl (fun hc => ?_) (fun hc => ?_)) | refine c_block ?_ | refine c_skip ?_ | refine c_exit ?_ | refine c_ret ?_)
        | (refine e_g ?_; first | refine e_then ?_ | refine e_blkn ?_ | refine e_thenx ?_ | refine e_thenr ?_ | refine e_blkr ?_ | refine e_blkx ?_ | refine e_blky rfl ?_)
        | refine e_round (y + 1, g, cap, cur) (by simp; omega) ⟨by simp; omega, ?_⟩ ?_ rfl)
      all_goals first
        | (rw [Nat.succ_mul]; exact sub_cons' rfl (by simp) (sub_cons rfl (sub_cons rfl sub_nil)))
        | (rw [Nat.succ_mul]; exact hA)
  · have hyH : y = 10 := by omega
    subst hyH
    repeat' (first
      | (refine s_g ?_; first
      | (refine s_k 0 rfl ?_; refine s_val rfl rfl rfl (r_move rfl rfl) ?_)
      | (refine s_k 8 rfl ?_; first | (refine' s_val rfl rfl rfl (r_ldv rfl rfl ?qm ?qv) ?_; (case qm => (exact zMm)); (case qv => (exact zLe))) | (refine' s_val rfl rfl rfl (r_ldo rfl rfl ?qw (by simp) ?qv) ?_; (case qw => assumption); (case qv => (exact zLe))))
      | (refine s_k 1 rfl ?_; refine s_val rfl rfl rfl (r_assign rfl rfl) ?_)
      | (refine s_k 13 rfl ?_; first | refine s_val rfl rfl rfl (r_lss rfl rfl rfl) ?_ | refine s_val rfl rfl rfl (r_add rfl rfl rfl (wrap_in (by simp only [lo, hi]; omega))) ?_)
      | (refine s_k 25 rfl ?_; first | refine s_val rfl rfl rfl (r_ixN tb rfl rfl rfl rfl (by omega)) ?_ | refine s_val rfl rfl rfl (r_ixA tb rfl rfl rfl rfl (by omega) (by omega)) ?_ | refine s_val rfl rfl rfl (r_ixO tb rfl rfl rfl rfl (by omega)) ?_)
      | (refine s_k 12 rfl ?_; refine s_val rfl rfl rfl (r_nil rfl rfl) ?_)
      | refine s_nil ?_)
      | (refine c_g ?_; first | refine c_seq ?_ | refine c_region ?_ | (refine c_gc ?_; first | refine c_cond1 rfl zTr ?_ | refine c_cond0 rfl zTr ?_ | refine z_condd1 rfl ?_ | refine z_condd0 rfl ?_ | refine z_conddn1 rfl ?_ | refine z_conddn0 rfl ?_ | refine c_condd rfl (fun hc => ?_) (fun hc => ?_) | refine c_conddn rfl (fun hc => ?_) (fun hc => ?_) | refine c_condn rfl (fun hc => ?_) (fun hc => ?_) | refine c_cond rfl (fun hc => ?_) (fun hc => ?_)) | refine c_block ?_ | refine c_skip ?_ | refine c_exit ?_ | refine c_ret ?_)
      | (refine e_g ?_; first | refine e_then ?_ | refine e_blkn ?_ | refine e_thenx ?_ | refine e_thenr ?_ | refine e_blkr ?_ | refine e_blkx ?_ | refine e_blky rfl ?_)
      | (refine e_ret1 (by simp) rfl (re_tmp rfl) fun w hL => NewS.of hA hL m0))
/-- Two results: a slice that the callee has made, and a code. -/
def NewS2 (T : TypeId) (sz : Nat) (xs : List Value) (c : Int) (w : World) (e : Ending) (w' : World) : Prop := ∃ g k cap cur, e = .returned (.tuple #[.slice (some ⟨g, 0, none⟩) k cap, .int .i64 c]) ∧ Ap sz k cap cur xs ∧ w.heap.size ≤ g ∧ w'.heap[g]? = some (.cells cur T (0, 0)) ∧ Below w.heap.size w w'
theorem NewS2.of {T : TypeId} {sz k cap g : Nat} {c : Int} {xs : List Value} {cur : Array Value} {w0 w : World} {L : List (Nat × TypeId × Array Value)} (hA : Ap sz k cap cur xs) (hL : Kn [] w0 w L) (hm : (g, T, cur) ∈ L) : NewS2 T sz xs c w0 (.returned (.tuple #[.slice (some ⟨g, 0, none⟩) k cap, .int .i64 c])) w :=
  ⟨g, k, cap, cur, rfl, hA, (hL.low _ hm).resolve_right (by simp), hL.has _ hm, hL.toBelow⟩
theorem s_callN2 {P : Program} {ops : Array Oper} {Q : Exit → Act → World → Prop} {n : Nat} {O : List Nat} {w0 : World} {o : Oper} {rest : List Oper} {l : List (Nat × Value)} {L : List (Nat × TypeId × Array Value)} {f : FuncId} {fn : Func} {xs : Array Operand} {ts : Array TypeId} {vs : List Value} {d : Nat} {T : TypeId} {sz : Nat} {cs : List Value} {c : Int} (hf : P.funcs[f]? = some fn) (hname : (fn.name == "runtime.NumGoroutine") = false) (hb : fn.body.isSome = true) (hg : o.guard = none) (hd : o.dst = some d) (hn : Nat.blt d n = true)
    (hop : o.op = .call { callee := .value (.func f), args := xs, argTypes := ts }) (hargs : evs l xs.toList = some vs) (hc : ∀ w, Kn O w0 w L → Calls P f vs.toArray w (NewS2 T sz cs c w)) (h : ∀ g k cap cur, Ap sz k cap cur cs → S P ops Q n O w0 rest ((d, .tuple #[.slice (some ⟨g, 0, none⟩) k cap, .int .i64 c]) :: l) ((g, T, cur) :: L)) : S P ops Q n O w0 (o :: rest) l L :=
  s_callR (ι := Nat × Nat × Nat × Array Value) (fun i => Ap sz i.2.1 i.2.2.1 i.2.2.2 cs) (fun i => .tuple #[.slice (some ⟨i.1, 0, none⟩) i.2.1 i.2.2.1, .int .i64 c]) (fun i => (i.1, T, i.2.2.2) :: L) hf hname hb hg hd hn hop hargs
    (fun w hL => (hc w hL).mono fun e w' ⟨g, k, cap, cur, he, hA, hge, hat, hb⟩ => ⟨(g, k, cap, cur), hA, he, Own.add hL hb hge hat⟩) (fun ⟨g, k, cap, cur⟩ hA => h g k cap cur hA)
end Go.Proofs.Ytpifngdmlmfnhaa
/- Cells within steps: both functions. No condition. -/
namespace Go.Proofs.Ytpifngdmlmfnhaa
set_option linter.unusedVariables false
set_option linter.unusedSimpArgs false
open Go.RowKit Mem Wk
attribute [local irreducible] Calls Wk.S Wk.C Wk.E Wk.X Wk.T Wk.Y Wk.andV Wk.shrV Calm.wpLex CalmB.wpLex bfsN
theorem one_slA (o : Sp) {w : World} {b : Nat} {T : TypeId} (h : w.heap[b]? = some (.cells #[.int .i8 o.x, .int .i8 o.y] T (0, 0))) : SlA [] w 2 (some ⟨b, 0, none⟩) ([o].map Sp.cells) := by
  have hA : Ap 2 1 1 #[.int .i8 o.x, .int .i8 o.y] (([o].map Sp.cells).flatten) := ⟨rfl, Nat.le_refl _, by unfold maxLen; simp, rfl, rfl⟩
  exact hA.slA (lenSp [o]) h
/-- wide and high of a pasture that has a cell -/
theorem dims {p : Nat → Int} {x y : Int} (ha : p 0 ≤ 10) (hb : p 1 ≤ 10) (hc : isC (p 0) (p 1) x y = true) : p 0 = ((p 0).toNat : Int) ∧ p 1 = ((p 1).toNat : Int) ∧ (p 0).toNat ≤ 10 ∧ (p 1).toNat ≤ 10 := by
  unfold isC inB at hc; simp at hc; omega
/-- the cells of a pasture for which something holds -/
def pasL (p : Nat → Int) (f : Sp → Bool) : List Sp := cellL f (p 0).toNat ((p 1).toNat * (p 0).toNat)
theorem pasL_ten {p : Nat → Int} {f g : Sp → Bool} {x y : Int} (ha : p 0 ≤ 10) (hb : p 1 ≤ 10) (hc : isC (p 0) (p 1) x y = true) (h : ∀ c, inR c → f c = (isC (p 0) (p 1) c.x c.y && g c)) : cellL f 10 (10 * 10) = pasL p g := by
  obtain ⟨hW, hH, hW10, hH10⟩ := dims ha hb hc
  unfold pasL
  rw [cellL_ten hW10 hH10 (fun u v hu hv hn => by
    rw [h _ ⟨by show (0 : Int) ≤ (u : Int); omega, by show (u : Int) < 10; omega, by show (0 : Int) ≤ (v : Int); omega, by show (v : Int) < 10; omega⟩]
    have e : isC (p 0) (p 1) (u : Int) (v : Int) = false := by
      rw [hW, hH]; unfold isC inB; simp; omega
    rw [e]; rfl)]
  refine cellL_congr fun u v hu hv => ?_
  rw [h _ ⟨by show (0 : Int) ≤ (u : Int); omega, by show (u : Int) < 10; omega, by show (0 : Int) ≤ (v : Int); omega, by show (v : Int) < 10; omega⟩]
  have e : isC (p 0) (p 1) (u : Int) (v : Int) = true := by
    rw [hW, hH]; unfold isC inB; simp; omega
  rw [e]; rfl
theorem one_isC {p : Nat → Int} {o : Sp} (h : isC (p 0) (p 1) o.x o.y = true) : ∀ c ∈ [o], isC (p 0) (p 1) c.x c.y = true := fun c hc => by simp at hc; subst hc; exact h
def strD (p : Nat → Int) (o : Sp) : Nat → Int := (stepsP p [o]).1
theorem strD_val (p : Nat → Int) {o : Sp} (h : inR o) (j : Nat) : 0 ≤ strD p o j ∧ strD p o j ≤ 101 := stepsP_val p (fun c hc => by simp at hc; subst hc; exact h) j
end Go.Proofs.Ytpifngdmlmfnhaa
