import Derived.Test.YtnafnhpajkhgkaaQW12
import Derived.Test.YtnafnhpajkhgkaaQW31
/- The code of two lists of cells: the reference's. No condition but lengths of at most 2^20. -/
namespace Go.Proofs.Ytnafnhpajkhgkaa
set_option linter.unusedVariables false
set_option linter.unusedSimpArgs false
open Go.RowKit Mem Wk
attribute [local irreducible] Calls Wk.S Wk.C Wk.E Wk.X Wk.T Wk.anV Wk.orV Wk.andV Wk.shlV Wk.shrV Calm.wpLex bfsN
theorem cellC_app (p : Nat → Int) (a b : List Sp) : cellC p (a ++ b) = if cellC p a = 0 then cellC p b else cellC p a := by
  unfold cellC
  cases hv : validP p
  · simp
  · simp only [List.any_append, if_true]
    cases a.any fun g => !isC (p 0) (p 1) g.x g.y <;> simp
set_option maxRecDepth 100000 in
theorem l03Lists_any (p : Nat → Int) (cs : Array Value) (T : TypeId) (gp : Nat) (a b : List Sp) (va vb : Value) (w : World) (hp : Pv p cs) (hg : w.heap[gp]? = some (.cells cs T (0, 0))) (hUa : Sl w 2 va (a.map Sp.cells)) (hUb : Sl w 2 vb (b.map Sp.cells)) (hna : a.length ≤ 1048576) (hnb : b.length ≤ 1048576) (hoa : ∀ c ∈ a, c.ok) (hob : ∀ c ∈ b, c.ok) :
    Calls Try.prog 71 #[.pointer (some ⟨gp, 0, none⟩), va, vb] w fun e w' => e = .returned (.int .i64 (cellC p (a ++ b))) ∧ Below w.heap.size w w' := by
  rw [cellC_app]
  obtain ⟨A, capa, rfl, _, _, hSa⟩ := hUa.open
  obtain ⟨B, capb, rfl, _, _, hSb⟩ := hUb.open
  rw [List.length_map, List.length_map]
  have h1 := fun w hg hS => l01All_any p cs T gp a A capa w hp hg hS hna hoa
  have h2 := fun w hg hS => l01All_any p cs T gp b B capb w hp hg hS hnb hob
  by_cases h0 : cellC p a = 0
  · rw [if_pos h0]
    rw [h0] at h1
    refine enter3 Try.func71 rfl rfl rfl (Own.start w) ?_
    repeat' (first
      | (refine s_g ?_; first
      | (refine s_k 0 rfl ?_; refine s_val rfl rfl rfl (r_move rfl rfl) ?_)
      | (refine s_k 1 rfl ?_; refine s_val rfl rfl rfl (r_assign rfl rfl) ?_)
      | (refine s_k 13 rfl ?_; refine s_val rfl rfl rfl (r_neq rfl rfl rfl) ?_)
      | (refine s_k 35 rfl ?_; first | (refine s_call Try.func55 (by kernel_rfl) rfl rfl rfl rfl rfl rfl (fun w hL => h1 w (Kn.old hL hg (by simp)) (hSa.at_ hL)) ?_) | (refine s_call Try.func55 (by kernel_rfl) rfl rfl rfl rfl rfl rfl (fun w hL => h2 w (Kn.old hL hg (by simp)) (hSb.at_ hL)) ?_))
      | refine s_nil ?_)
      | (refine c_g ?_; first | refine c_seq ?_ | refine c_region ?_ | (refine c_gc ?_; first | refine c_cond1 rfl zTr ?_ | refine c_cond0 rfl zTr ?_ | refine z_condd1 rfl ?_ | refine z_condd0 rfl ?_ | refine z_conddn1 rfl ?_ | refine z_conddn0 rfl ?_ | refine c_condd rfl (fun hc => ?_) (fun hc => ?_) | refine c_conddn rfl (fun hc => ?_) (fun hc => ?_) | refine c_condn rfl (fun hc => ?_) (fun hc => ?_) | refine c_cond rfl (fun hc => ?_) (fun hc => ?_)) | refine c_block ?_ | refine c_skip ?_ | refine c_exit ?_ | refine c_ret ?_)
      | (refine e_g ?_; first | refine e_then ?_ | refine e_blkn ?_ | refine e_thenx ?_ | refine e_thenr ?_ | refine e_blkr ?_ | refine e_blkx ?_ | refine e_blky rfl ?_)
      | (refine e_ret1 (by simp) rfl (re_tmp rfl) fun w hL => ⟨rfl, hL.toBelow⟩))
  · rw [if_neg h0]
    generalize cellC p a = c at *
    refine enter3 Try.func71 rfl rfl rfl (Own.start w) ?_
    repeat' (first
      | (refine s_g ?_; first
      | (refine s_k 0 rfl ?_; refine s_val rfl rfl rfl (r_move rfl rfl) ?_)
      | (refine s_k 1 rfl ?_; refine s_val rfl rfl rfl (r_assign rfl rfl) ?_)
      | (refine s_k 13 rfl ?_; refine s_val rfl rfl rfl (r_neq rfl rfl rfl) ?_)
      | (refine s_k 35 rfl ?_; (refine s_call Try.func55 (by kernel_rfl) rfl rfl rfl rfl rfl rfl (fun w hL => h1 w (Kn.old hL hg (by simp)) (hSa.at_ hL)) ?_))
      | refine s_nil ?_)
      | (refine c_g ?_; first | refine c_seq ?_ | refine c_region ?_ | (refine c_gc ?_; first | refine c_cond1 rfl zTr ?_ | refine c_cond0 rfl zTr ?_ | refine z_condd1 rfl ?_ | refine z_condd0 rfl ?_ | refine z_conddn1 rfl ?_ | refine z_conddn0 rfl ?_ | refine c_condd rfl (fun hc => ?_) (fun hc => ?_) | refine c_conddn rfl (fun hc => ?_) (fun hc => ?_) | refine c_condn rfl (fun hc => ?_) (fun hc => ?_) | refine c_cond rfl (fun hc => ?_) (fun hc => ?_)) | refine c_block ?_ | refine c_skip ?_ | refine c_exit ?_ | refine c_ret ?_)
      | (refine e_g ?_; first | refine e_then ?_ | refine e_blkn ?_ | refine e_thenx ?_ | refine e_thenr ?_ | refine e_blkr ?_ | refine e_blkx ?_ | refine e_blky rfl ?_)
      | (refine e_ret1 (by simp) rfl (re_tmp rfl) fun w hL => ⟨rfl, hL.toBelow⟩))
end Go.Proofs.Ytnafnhpajkhgkaa
