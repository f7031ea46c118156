import Derived.Test.YtpifngdmlmfnhaaQA41
/- The codes of goats; CellsFor: both functions. No condition. -/
namespace Go.Proofs.Ytpifngdmlmfnhaa
set_option linter.unusedVariables false
set_option linter.unusedSimpArgs false
open Go.RowKit Mem Wk
attribute [local irreducible] Calls Wk.S Wk.C Wk.E Wk.X Wk.T Wk.Y Wk.andV Wk.shrV Calm.wpLex CalmB.wpLex bfsN
def gtC (p : Nat → Int) (g : Gt) : Int := if validP p && goatOk p g then 0 else 1
theorem validGt1 (p : Nat → Int) (g : Gt) : validGt p [g] = (validP p && goatOk p g) := by unfold validGt; simp
theorem slGt1 (a b c d e f h : Value) (w : World) : (Instr.buildSlice 55 1 #[(0, .agg #[a, b, c, d, e, f, h])]).run Try.prog w = .ok (.slice (some ⟨w.heap.size, 0, none⟩) 1 1) (w.alloc (.cells #[a, b, c, d, e, f, h] 102 (0, 0))) := by kernel_rfl
theorem sl1_gt {w : World} {b : Nat} {T : TypeId} (g : Gt) (h : w.heap[b]? = some (.cells #[.int .i8 g.x, .int .i8 g.y, .int .i8 g.u, .int .i8 g.v, .int .i16 g.rope, .int .i16 g.eats, .int .i8 g.likes] T (0, 0))) : Sl w 7 (.slice (some ⟨b, 0, none⟩) 1 1) ([g].map Gt.cells) :=
  Sl.of_block (n := 1) (by intro c hc; simp at hc; subst hc; rfl) rfl (by unfold maxLen; omega) h (fun j _ => by simp [Gt.cells])
set_option maxRecDepth 100000 in
theorem goatCode_new (p : Nat → Int) (cs : Array Value) (v : Value) (l : List Gt) (w : World) (hp : Pv p cs) (hl : Sl w 7 v (l.map Gt.cells)) (hok : ∀ s ∈ l, s.ok) :
    Calls Try.prog 121 #[.agg cs, v] w fun e w' => e = .returned (.int .i64 (if validGt p l then 0 else 1)) ∧ Below w.heap.size w w' := by
  have hsz := hp.size
  refine enter2 Try.func121 rfl rfl rfl (Own.start w) ?_
  repeat' (first
    | (refine s_g ?_; first
      | (refine s_k 0 rfl ?_; refine s_val rfl rfl rfl (r_move rfl rfl) ?_)
      | (refine s_k 8 rfl ?_; first | (refine' s_val rfl rfl rfl (r_ldv rfl rfl ?qm ?qv) ?_; (case qm => (exact zMm)); (case qv => (exact zLe))) | (refine' s_val rfl rfl rfl (r_ldo rfl rfl ?qw (by simp) ?qv) ?_; (case qw => assumption); (case qv => (exact zLe))))
      | (refine s_k 1 rfl ?_; refine s_val rfl rfl rfl (r_assign rfl rfl) ?_)
      | (refine s_k 35 rfl ?_; first | (refine s_call Try.func83 (by kernel_rfl) rfl rfl rfl rfl rfl rfl (fun w hL => implValidGoats_any p cs _ l _ hp (hl.below hL.toBelow) hok) ?_) | (refine s_call Try.func102 (by kernel_rfl) rfl rfl rfl rfl rfl rfl (fun w hL => to_below (unless0_any _ _ _) rfl) ?_))
      | (refine s_k 4 rfl ?_; first | refine s_boxA rfl rfl rfl rfl rfl fun blk => ?_ | refine s_box1 rfl rfl rfl rfl rfl rfl fun blk => ?_)
      | refine s_nil ?_)
    | (refine c_g ?_; first | refine c_seq ?_ | refine c_region ?_ | (refine c_gc ?_; first | refine c_cond1 rfl zTr ?_ | refine c_cond0 rfl zTr ?_ | refine z_condd1 rfl ?_ | refine z_condd0 rfl ?_ | refine z_conddn1 rfl ?_ | refine z_conddn0 rfl ?_ | refine c_condd rfl (fun hc => ?_) (fun hc => ?_) | refine c_conddn rfl (fun hc => ?_) (fun hc => ?_) | refine c_condn rfl (fun hc => ?_) (fun hc => ?_) | refine c_cond rfl (fun hc => ?_) (fun hc => ?_)) | refine c_block ?_ | refine c_skip ?_ | refine c_exit ?_ | refine c_ret ?_)
    | (refine e_g ?_; first | refine e_then ?_ | refine e_blkn ?_ | refine e_thenx ?_ | refine e_thenr ?_ | refine e_blkr ?_ | refine e_blkx ?_ | refine e_blky rfl ?_)
    | (refine e_ret1 (by simp) rfl (re_tmp rfl) fun w hL => ⟨rfl, hL.toBelow⟩))
theorem goatCode1 {p : Nat → Int} {cs : Array Value} {g : Gt} {b : Nat} {T : TypeId} {w : World} (hp : Pv p cs) (hs : g.ok) (h : w.heap[b]? = some (.cells #[.int .i8 g.x, .int .i8 g.y, .int .i8 g.u, .int .i8 g.v, .int .i16 g.rope, .int .i16 g.eats, .int .i8 g.likes] T (0, 0))) :
    Calls Try.prog 121 #[.agg cs, .slice (some ⟨b, 0, none⟩) 1 1] w fun e w' => e = .returned (.int .i64 (gtC p g)) ∧ Below w.heap.size w w' := by
  have h1 := goatCode_new p cs _ [g] w hp (sl1_gt g h) (fun t ht => by simp at ht; subst ht; exact hs)
  rw [validGt1] at h1; exact h1
theorem valid_le3 {p : Nat → Int} (h : validP p = true) : p 0 ≤ 10 ∧ p 1 ≤ 10 := by
  unfold validP inB at h; simp at h; omega
theorem cellsAt_box {w : World} {b : Nat} {T : TypeId} {g : Gt} (h : w.heap[b]? = some (.cells #[.int .i8 g.x, .int .i8 g.y, .int .i8 g.u, .int .i8 g.v, .int .i16 g.rope, .int .i16 g.eats, .int .i8 g.likes] T (0, 0))) : CellsAt w b 0 g.cells := fun j u hu => by
  rw [cell_of_row w b _ _ T (0, 0) h, Nat.zero_add]; simpa [Gt.cells] using hu
set_option maxRecDepth 100000 in
theorem l02One_any (p : Nat → Int) (cs : Array Value) (T T' : TypeId) (gp gg : Nat) (g : Gt) (w : World) (hp : Pv p cs) (hgp : w.heap[gp]? = some (.cells cs T (0, 0))) (hgg : w.heap[gg]? = some (.cells #[.int .i8 g.x, .int .i8 g.y, .int .i8 g.u, .int .i8 g.v, .int .i16 g.rope, .int .i16 g.eats, .int .i8 g.likes] T' (0, 0))) (hg : g.ok) :
    Calls Try.prog 181 #[.pointer (some ⟨gp, 0, none⟩), .pointer (some ⟨gg, 0, none⟩)] w fun e w' => e = .returned (.int .i64 (gtC p g)) ∧ Below w.heap.size w w' := by
  cases hv : validP p
  case false =>
    refine enter2 Try.func181 rfl rfl rfl (Own.start w) ?_
    repeat' (first
      | (refine s_g ?_; first
      | (refine s_gd rfl ?_; first | refine s_gd1 rfl rfl zTr ?_ | refine s_gd0 rfl rfl rfl zTr ?_ | refine s_gd00 rfl rfl zTr ?_ | refine s_gp1 rfl rfl rfl (fun hc => ?_) (fun hc => ?_) | refine s_gp0 rfl rfl rfl (fun hc => ?_) (fun hc => ?_) | refine s_gnp1 rfl rfl rfl (fun hc => ?_) (fun hc => ?_) | refine s_gnp0 rfl rfl rfl (fun hc => ?_) (fun hc => ?_) | refine s_gb1 rfl rfl rfl (fun hc => ?_) (fun hc => ?_) | refine s_gb0 rfl rfl rfl (fun hc => ?_) (fun hc => ?_) | refine s_gnb1 rfl rfl rfl (fun hc => ?_) (fun hc => ?_) | refine s_gnb0 rfl rfl rfl (fun hc => ?_) (fun hc => ?_))
      | (refine s_k 0 rfl ?_; refine s_val rfl rfl rfl (r_move rfl rfl) ?_)
      | (refine s_k 1 rfl ?_; refine s_val rfl rfl rfl (r_assign rfl rfl) ?_)
      | (refine s_k 35 rfl ?_; (refine s_call Try.func148 (by kernel_rfl) rfl rfl rfl rfl rfl rfl (fun w hL => (by have h := l01Ok_any p cs T gp _ hp (Kn.old hL hgp (by simp)); rw [hv] at h; exact h)) ?_))
      | (refine s_k 14 rfl ?_; refine s_val rfl rfl rfl (r_not rfl rfl) ?_)
      | (refine s_k 2 rfl ?_; first | refine s_val rfl rfl rfl (r_pick1 rfl rfl zTr rfl) ?_ | refine s_val rfl rfl rfl (r_pick0 rfl rfl zTr rfl) ?_)
      | refine s_nil ?_)
      | (refine c_g ?_; first | refine c_seq ?_ | refine c_region ?_ | (refine c_gc ?_; first | refine c_cond1 rfl zTr ?_ | refine c_cond0 rfl zTr ?_ | refine z_condd1 rfl ?_ | refine z_condd0 rfl ?_ | refine z_conddn1 rfl ?_ | refine z_conddn0 rfl ?_ | refine c_condd rfl (fun hc => ?_) (fun hc => ?_) | refine c_conddn rfl (fun hc => ?_) (fun hc => ?_) | refine c_condn rfl (fun hc => ?_) (fun hc => ?_) | refine c_cond rfl (fun hc => ?_) (fun hc => ?_)) | refine c_block ?_ | refine c_skip ?_ | refine c_exit ?_ | refine c_ret ?_)
      | (refine e_g ?_; first | refine e_then ?_ | refine e_blkn ?_ | refine e_thenx ?_ | refine e_thenr ?_ | refine e_blkr ?_ | refine e_blkx ?_ | refine e_blky rfl ?_)
      | (refine e_ret1 (by simp) rfl (re_tmp rfl) fun w hL => ⟨by simp [gtC, hv], hL.toBelow⟩))
  case true =>
    have hle := valid_le3 hv
    cases hk : goatOk p g
    all_goals
      refine enter2 Try.func181 rfl rfl rfl (Own.start w) ?_
      repeat' (first
        | (refine s_g ?_; first
      | (refine s_gd rfl ?_; first | refine s_gd1 rfl rfl zTr ?_ | refine s_gd0 rfl rfl rfl zTr ?_ | refine s_gd00 rfl rfl zTr ?_ | refine s_gp1 rfl rfl rfl (fun hc => ?_) (fun hc => ?_) | refine s_gp0 rfl rfl rfl (fun hc => ?_) (fun hc => ?_) | refine s_gnp1 rfl rfl rfl (fun hc => ?_) (fun hc => ?_) | refine s_gnp0 rfl rfl rfl (fun hc => ?_) (fun hc => ?_) | refine s_gb1 rfl rfl rfl (fun hc => ?_) (fun hc => ?_) | refine s_gb0 rfl rfl rfl (fun hc => ?_) (fun hc => ?_) | refine s_gnb1 rfl rfl rfl (fun hc => ?_) (fun hc => ?_) | refine s_gnb0 rfl rfl rfl (fun hc => ?_) (fun hc => ?_))
      | (refine s_k 0 rfl ?_; refine s_val rfl rfl rfl (r_move rfl rfl) ?_)
      | (refine s_k 1 rfl ?_; refine s_val rfl rfl rfl (r_assign rfl rfl) ?_)
      | (refine s_k 35 rfl ?_; first | (refine s_call Try.func148 (by kernel_rfl) rfl rfl rfl rfl rfl rfl (fun w hL => (by have h := l01Ok_any p cs T gp _ hp (Kn.old hL hgp (by simp)); rw [hv] at h; exact h)) ?_) | (refine s_call Try.func197 (by kernel_rfl) rfl rfl rfl rfl rfl rfl (fun w hL => (by have h := l02Goat_any p cs T gp gg 0 g _ hp (Kn.old hL hgp (by simp)) hle.1 hle.2 hg (cellsAt_box (Kn.old hL hgg (by simp))); rw [hk] at h; exact h)) ?_))
      | (refine s_k 14 rfl ?_; refine s_val rfl rfl rfl (r_not rfl rfl) ?_)
      | (refine s_k 2 rfl ?_; first | refine s_val rfl rfl rfl (r_pick1 rfl rfl zTr rfl) ?_ | refine s_val rfl rfl rfl (r_pick0 rfl rfl zTr rfl) ?_)
      | refine s_nil ?_)
        | (refine c_g ?_; first | refine c_seq ?_ | refine c_region ?_ | (refine c_gc ?_; first | refine c_cond1 rfl zTr ?_ | refine c_cond0 rfl zTr ?_ | refine z_condd1 rfl ?_ | refine z_condd0 rfl ?_ | refine z_conddn1 rfl ?_ | refine z_conddn0 rfl ?_ | refine c_condd rfl (fun hc => ?_) (fun hc => ?_) | refine c_conddn rfl (fun hc => ?_) (fun hc => ?_) | refine c_condn rfl (fun hc => ?_) (fun hc => ?_) | refine c_cond rfl (fun hc => ?_) (fun hc => ?_)) | refine c_block ?_ | refine c_skip ?_ | refine c_exit ?_ | refine c_ret ?_)
        | (refine e_g ?_; first | refine e_then ?_ | refine e_blkn ?_ | refine e_thenx ?_ | refine e_thenr ?_ | refine e_blkr ?_ | refine e_blkx ?_ | refine e_blky rfl ?_)
        | (refine e_ret1 (by simp) rfl (re_tmp rfl) fun w hL => ⟨by simp [gtC, hv, hk], hL.toBelow⟩))
theorem gtC0 {p : Nat → Int} {g : Gt} (h : gtC p g = 0) : p 0 ≤ 10 ∧ p 1 ≤ 10 ∧ isC (p 0) (p 1) g.x g.y = true ∧ -1 ≤ g.rope := by
  unfold gtC at h
  split at h
  · rename_i h1
    simp only [Bool.and_eq_true] at h1
    have := valid_le3 h1.1
    have h2 := h1.2
    unfold goatOk plainG inB at h2
    simp only [Bool.and_eq_true, decide_eq_true_eq] at h2
    exact ⟨this.1, this.2, h2.1, by omega⟩
  · cases h
end Go.Proofs.Ytpifngdmlmfnhaa
