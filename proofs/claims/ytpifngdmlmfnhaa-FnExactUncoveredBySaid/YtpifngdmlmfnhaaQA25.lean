import Derived.Test.YtpifngdmlmfnhaaQA10
import Derived.Test.YtpifngdmlmfnhaaQA22
import Derived.Test.YtpifngdmlmfnhaaQA24
/- ReachOf, FoodOf, LeastReach: both functions. No condition. -/
namespace Go.Proofs.Ytpifngdmlmfnhaa
set_option linter.unusedVariables false
set_option linter.unusedSimpArgs false
open Go.RowKit Mem Wk
attribute [local irreducible] Calls Wk.S Wk.C Wk.E Wk.X Wk.T Wk.Y Wk.andV Wk.shrV Calm.wpLex CalmB.wpLex bfsN
set_option maxRecDepth 100000 in
theorem stakeCode_any (p : Nat → Int) (cs : Array Value) (v : Value) (l : List Sk) (w : World) (hp : Pv p cs) (hl : Sl w 3 v (l.map Sk.cells)) (hok : ∀ s ∈ l, s.ok) :
    Calls Try.prog 101 #[.agg cs, v] w fun e w' => e = .returned (.int .i64 (if validStk p l then 0 else 1)) ∧ Below w.heap.size w w' := by
  have hsz := hp.size
  refine enter2 Try.func101 rfl rfl rfl (Own.start w) ?_
  repeat' (first
    | (refine s_g ?_; first
      | (refine s_k 0 rfl ?_; refine s_val rfl rfl rfl (r_move rfl rfl) ?_)
      | (refine s_k 8 rfl ?_; first | (refine' s_val rfl rfl rfl (r_ldv rfl rfl ?qm ?qv) ?_; (case qm => (exact zMm)); (case qv => (exact zLe))) | (refine' s_val rfl rfl rfl (r_ldo rfl rfl ?qw (by simp) ?qv) ?_; (case qw => assumption); (case qv => (exact zLe))))
      | (refine s_k 1 rfl ?_; refine s_val rfl rfl rfl (r_assign rfl rfl) ?_)
      | (refine s_k 35 rfl ?_; first | (refine s_call Try.func188 (by kernel_rfl) rfl rfl rfl rfl rfl rfl (fun w hL => implValidStakes_any p cs _ l _ hp (hl.below hL.toBelow) hok) ?_) | (refine s_call Try.func102 (by kernel_rfl) rfl rfl rfl rfl rfl rfl (fun w hL => to_below (unless0_any _ _ _) rfl) ?_))
      | (refine s_k 4 rfl ?_; first | refine s_boxA rfl rfl rfl rfl rfl fun blk => ?_ | refine s_box1 rfl rfl rfl rfl rfl rfl fun blk => ?_)
      | refine s_nil ?_)
    | (refine c_g ?_; first | refine c_seq ?_ | refine c_region ?_ | (refine c_gc ?_; first | refine c_cond1 rfl zTr ?_ | refine c_cond0 rfl zTr ?_ | refine z_condd1 rfl ?_ | refine z_condd0 rfl ?_ | refine z_conddn1 rfl ?_ | refine z_conddn0 rfl ?_ | refine c_condd rfl (fun hc => ?_) (fun hc => ?_) | refine c_conddn rfl (fun hc => ?_) (fun hc => ?_) | refine c_condn rfl (fun hc => ?_) (fun hc => ?_) | refine c_cond rfl (fun hc => ?_) (fun hc => ?_)) | refine c_block ?_ | refine c_skip ?_ | refine c_exit ?_ | refine c_ret ?_)
    | (refine e_g ?_; first | refine e_then ?_ | refine e_blkn ?_ | refine e_thenx ?_ | refine e_thenr ?_ | refine e_blkr ?_ | refine e_blkx ?_ | refine e_blky rfl ?_)
    | (refine e_ret1 (by simp) rfl (re_tmp rfl) fun w hL => ⟨rfl, hL.toBelow⟩))
theorem valid_le2 {p : Nat → Int} (h : validP p = true) : p 0 ≤ 10 ∧ p 1 ≤ 10 := by
  unfold validP inB at h; simp at h; omega
theorem reachL_len {p : Nat → Int} {s : Sk} (ha : p 0 ≤ 10) (hb : p 1 ≤ 10) (hc : isC (p 0) (p 1) s.x s.y = true) : (reachL p s).length ≤ 100 := by
  obtain ⟨_, _, hW10, hH10⟩ := dims ha hb hc
  unfold reachL
  refine Nat.le_trans (List.length_filter_le _ _) ?_
  unfold yardL pasL
  exact Nat.le_trans (cellL_len _ _ _) (Nat.mul_le_mul hH10 hW10)
end Go.Proofs.Ytpifngdmlmfnhaa
/- GreatestReach: the program's. No condition. -/
namespace Go.Proofs.Ytpifngdmlmfnhaa
set_option linter.unusedVariables false
set_option linter.unusedSimpArgs false
open Go.RowKit Mem Wk
attribute [local irreducible] Calls Wk.S Wk.C Wk.E Wk.X Wk.T Wk.Y Wk.andV Wk.shrV Calm.wpLex CalmB.wpLex bfsN
theorem zImplStk : (Try.prog.info? 132).map (·.zero) = some (some (.agg #[.int .i8 0, .int .i8 0, .int .i16 0])) := by kernel_rfl
theorem vs_get {p : Nat → Int} {L : List Sk} (h : validStk p L = true) : p 0 ≤ 10 ∧ p 1 ≤ 10 ∧ L.length ≤ 12 ∧ ∀ (k : Nat) (s : Sk), L[k]? = some s → isC (p 0) (p 1) s.x s.y = true := by
  unfold validStk at h
  simp only [Bool.and_eq_true, decide_eq_true_eq, List.all_eq_true, List.mem_range] at h
  obtain ⟨h1, h2, h3⟩ := h
  obtain ⟨ha, hb⟩ := valid_le2 h1
  refine ⟨ha, hb, h2, fun k s hk => ?_⟩
  have h4 := h3 k (List.getElem?_eq_some_iff.1 hk).1
  unfold itemOk stOk at h4
  simp only [Bool.and_eq_true] at h4
  have e : L.getD k skZ = s := by simp [List.getD_eq_getElem?_getD, hk]
  rw [e] at h4
  exact h4.1.1
/-- the code of a pasture, stakes and a test of numbers -/
def skA (p : Nat → Int) (L : List Sk) (b : Bool) : Int := if validStk p L then (if b then 0 else 2) else 1
set_option maxRecDepth 100000 in
theorem l05Asked_any (p : Nat → Int) (cs : Array Value) (T : TypeId) (gp : Nat) (v : Value) (L : List Sk) (b : Bool) (w : World) (hp : Pv p cs) (hg : w.heap[gp]? = some (.cells cs T (0, 0))) (hU : Sl w 3 v (L.map Sk.cells)) (hok : ∀ s ∈ L, s.ok) :
    Calls Try.prog 91 #[.pointer (some ⟨gp, 0, none⟩), v, .bool b] w fun e w' => e = .returned (.int .i64 (skA p L b)) ∧ Below w.heap.size w w' := by
  have hkc := fun w' (hb' : Below w.heap.size w w') hg' => l05Ok_any p cs T gp v L w' hp hg' (hU.below hb') hok
  obtain ⟨A, cap, rfl, h1, h2, hS⟩ := hU.open
  unfold skA
  cases hvs : validStk p L
  all_goals cases b
  all_goals
    rw [hvs] at hkc
    refine enter3 Try.func91 rfl rfl rfl (Own.start w) ?_
    repeat' (first
      | (refine s_g ?_; first
      | (refine s_k 0 rfl ?_; refine s_val rfl rfl rfl (r_move rfl rfl) ?_)
      | (refine s_k 1 rfl ?_; refine s_val rfl rfl rfl (r_assign rfl rfl) ?_)
      | (refine s_k 35 rfl ?_; (refine s_call Try.func185 (by kernel_rfl) rfl rfl rfl rfl rfl rfl (fun w hL => hkc _ hL.toBelow (Kn.old hL hg (by simp))) ?_))
      | (refine s_k 14 rfl ?_; refine s_val rfl rfl rfl (r_not rfl rfl) ?_)
      | refine s_nil ?_)
      | (refine c_g ?_; first | refine c_seq ?_ | refine c_region ?_ | (refine c_gc ?_; first | refine c_cond1 rfl zTr ?_ | refine c_cond0 rfl zTr ?_ | refine z_condd1 rfl ?_ | refine z_condd0 rfl ?_ | refine z_conddn1 rfl ?_ | refine z_conddn0 rfl ?_ | refine c_condd rfl (fun hc => ?_) (fun hc => ?_) | refine c_conddn rfl (fun hc => ?_) (fun hc => ?_) | refine c_condn rfl (fun hc => ?_) (fun hc => ?_) | refine c_cond rfl (fun hc => ?_) (fun hc => ?_)) | refine c_block ?_ | refine c_skip ?_ | refine c_exit ?_ | refine c_ret ?_)
      | (refine e_g ?_; first | refine e_then ?_ | refine e_blkn ?_ | refine e_thenx ?_ | refine e_thenr ?_ | refine e_blkr ?_ | refine e_blkx ?_ | refine e_blky rfl ?_)
      | (refine e_ret1 (by simp) rfl (re_tmp rfl) fun w hL => ⟨rfl, hL.toBelow⟩))
end Go.Proofs.Ytpifngdmlmfnhaa
/- How many stakes reach each cell: the reference's. No condition. -/
namespace Go.Proofs.Ytpifngdmlmfnhaa
set_option linter.unusedVariables false
set_option linter.unusedSimpArgs false
open Go.RowKit Mem Wk
attribute [local irreducible] Calls Wk.S Wk.C Wk.E Wk.X Wk.T Wk.Y Wk.andV Wk.shrV Calm.wpLex CalmB.wpLex bfsN
def tmN (p : Nat → Int) (L : List Sk) (j : Nat) : Int := ((L.filter fun s => tbl (maskF p s) j).length : Int)
theorem tmN_rng (p : Nat → Int) (L : List Sk) (j : Nat) : 0 ≤ tmN p L j ∧ tmN p L j ≤ L.length := by
  unfold tmN
  have := List.length_filter_le (fun s => tbl (maskF p s) j) L
  omega
theorem tmN_snoc {p : Nat → Int} {L : List Sk} {k : Nat} {s : Sk} (h : L[k]? = some s) (j : Nat) : tmN p (L.take (k + 1)) j = tmN p (L.take k) j + if tbl (maskF p s) j then 1 else 0 := by
  unfold tmN
  rw [List.take_add_one, h, List.filter_append]
  cases hb : tbl (maskF p s) j <;> simp [hb]
def dn (F : Sp → Bool) (D : Nat → Int) (y x j : Nat) : Int := D j + if done F y x j then 1 else 0
theorem done_step {F : Sp → Bool} {y x j : Nat} (hx : x < 10) : done F y (x + 1) j = (done F y x j || (decide (j = y * 10 + x) && tbl F j)) := by
  unfold done
  by_cases e : j = y * 10 + x
  · have h1 : j / 10 = y := by omega
    have h2 : j % 10 = x := by omega
    have h3 : (decide (j / 10 < y) || (decide (j / 10 = y) && decide (j % 10 < x + 1))) = true := by rw [h1, h2]; simp
    rw [h3, decide_eq_true e, Bool.true_and]
    cases (decide (j / 10 < y) || (decide (j / 10 = y) && decide (j % 10 < x))) <;> cases tbl F j <;> rfl
  · by_cases h1 : j / 10 = y
    · have h2 : ¬ j % 10 = x := by omega
      have h3 : decide (j % 10 < x + 1) = decide (j % 10 < x) := decide_eq_decide.2 (by omega)
      simp [h3, e]
    · simp [h1, e]
theorem dn_yes {F : Sp → Bool} {D : Nat → Int} {cs : Array Value} {x y : Nat} {u : Int} (h : GI .i64 0 (dn F D y x) cs) (hx : x < 10) (hy : y < 10) (hF : tbl F (y * 10 + x) = true) (hu : u = D (y * 10 + x) + 1) : GI .i64 0 (dn F D y (x + 1)) (cs.setIfInBounds (0 + y * 10 + x * 1) (.int .i64 u)) := by
  have e : 0 + y * 10 + x * 1 = y * 10 + x := by omega
  rw [e]
  have := h.set (i := y * 10 + x) (by omega) u
  rw [Int.sub_zero] at this
  refine this.wrap fun j hj => ?_
  by_cases ej : j = y * 10 + x
  · subst ej
    rw [upd_at]
    unfold dn
    rw [done_step hx, hF]
    simp [hu]
  · rw [upd_ne _ _ ej]
    unfold dn
    rw [done_step hx]
    simp [ej]
theorem dn_no {F : Sp → Bool} {D : Nat → Int} {cs : Array Value} {x y : Nat} (h : GI .i64 0 (dn F D y x) cs) (hx : x < 10) (hF : tbl F (y * 10 + x) = false) : GI .i64 0 (dn F D y (x + 1)) cs := h.wrap fun j hj => by
  unfold dn
  rw [done_step hx]
  by_cases ej : j = y * 10 + x
  · subst ej; simp [hF]
  · simp [ej]
theorem dn_row {F : Sp → Bool} {D : Nat → Int} {cs : Array Value} {y : Nat} (h : GI .i64 0 (dn F D y 10) cs) : GI .i64 0 (dn F D (y + 1) 0) cs := h.wrap fun j hj => by
  unfold dn done
  have e : (decide (j / 10 < y) || (decide (j / 10 = y) && decide (j % 10 < 10))) = (decide (j / 10 < y + 1) || (decide (j / 10 = y + 1) && decide (j % 10 < 0))) := by
    rw [Bool.eq_iff_iff]; simp; omega
  rw [e]
theorem dn_at {F : Sp → Bool} {D : Nat → Int} {x y : Nat} (hx : x < 10) : dn F D y x (y * 10 + x) = D (y * 10 + x) := by
  unfold dn done
  have h1 : (y * 10 + x) / 10 = y := by omega
  have h2 : (y * 10 + x) % 10 = x := by omega
  simp [h1, h2]
theorem dn_0 {F : Sp → Bool} {D : Nat → Int} {cs : Array Value} (h : GI .i64 0 D cs) : GI .i64 0 (dn F D 0 0) cs := h.wrap fun j hj => by
  unfold dn done; simp
theorem dn_all {F : Sp → Bool} {D : Nat → Int} {cs : Array Value} (h : GI .i64 0 (dn F D 10 0) cs) : GI .i64 0 (fun j => D j + if tbl F j then 1 else 0) cs := h.wrap fun j hj => by
  unfold dn done
  have h1 : j / 10 < 10 := by omega
  simp [h1]
end Go.Proofs.Ytpifngdmlmfnhaa
