import Derived.Test.YtnfdefeafhepkaaQH12
import Derived.Test.YtnfdefeafhepkaaQH16
import Derived.Test.YtnfdefeafhepkaaQH17
import Derived.Test.YtnfdefeafhepkaaQH18
import Derived.Test.YtnfdefeafhepkaaQH22
import Derived.Test.YtnfdefeafhepkaaQH23
import Derived.Test.YtnfdefeafhepkaaQH25
import Derived.Test.YtnfdefeafhepkaaQH28
import Derived.Test.YtnfdefeafhepkaaQH31
/- WhoEatsAt: both functions. No condition. -/
namespace Go.Proofs.Ytnfdefeafhepkaa
set_option linter.unusedVariables false
set_option linter.unusedSimpArgs false
open Go.RowKit Mem Wk
attribute [local irreducible] Calls Wk.S Wk.C Wk.E Wk.X Wk.T Wk.Y Wk.Z Wk.anV Wk.orV Wk.andV Wk.shlV Wk.shrV Calm.wpLex CalmB.wpLex CalmE.wpLex bfsN
theorem mskF_at {l : List Sp} {s : Sp} (hl : ∀ c ∈ l, inR c) (hs : inR s) : mskF l (ci s) = l.any (eqSp s) := by
  unfold mskF
  rw [Bool.eq_iff_iff]
  simp only [List.any_eq_true, decide_eq_true_eq]
  constructor
  · rintro ⟨c, hc, e⟩
    refine ⟨c, hc, ?_⟩
    have := ci_inj (hl c hc) hs e
    subst this; simp [eqSp]
  · rintro ⟨c, hc, e⟩
    unfold eqSp at e
    simp only [Bool.and_eq_true, decide_eq_true_eq] at e
    exact ⟨c, hc, by unfold ci; rw [e.1, e.2]⟩
end Go.Proofs.Ytnfdefeafhepkaa
/- CheckApart: the program's and the reference's. No condition but a length of at most 2^20. -/
namespace Go.Proofs.Ytnfdefeafhepkaa
set_option linter.unusedVariables false
set_option linter.unusedSimpArgs false
open Go.RowKit Mem Wk
attribute [local irreducible] Calls Wk.S Wk.C Wk.E Wk.X Wk.T Wk.Y Wk.anV Wk.orV Wk.andV Wk.shlV Wk.shrV Calm.wpLex CalmB.wpLex bfsN
theorem cellC_0 {p : Nat → Int} {l : List Sp} (h : cellC p l = 0) : validP p = true ∧ ∀ c ∈ l, isC (p 0) (p 1) c.x c.y = true := by
  unfold cellC at h
  split at h
  · split at h
    · cases h
    · rename_i h1 h2
      refine ⟨h1, fun c hc => ?_⟩
      simp only [List.any_eq_true, not_exists, not_and] at h2
      have := h2 c hc
      simpa using this
  · cases h
set_option maxRecDepth 100000 in
theorem l01All_any (p : Nat → Int) (cs : Array Value) (T : TypeId) (gp : Nat) (l : List Sp) (A : Option Addr) (cap : Nat) (w : World) (hp : Pv p cs) (hg : w.heap[gp]? = some (.cells cs T (0, 0))) (hS : SlA [] w 2 A (l.map Sp.cells)) (hn : l.length ≤ 1048576) (hok : ∀ c ∈ l, c.ok) :
    Calls Try.prog 40 #[.pointer (some ⟨gp, 0, none⟩), .slice A l.length cap] w fun e w' => e = .returned (.int .i64 (cellC p l)) ∧ Below w.heap.size w w' := by
  have hOk := fun w hg => l01Ok_any p cs T gp w hp hg
  cases hv : validP p
  case false =>
    have hc : cellC p l = 1 := by unfold cellC; rw [hv]; rfl
    rw [hc]
    rw [hv] at hOk
    refine enter2 Try.func40 rfl rfl rfl (Own.start w) ?_
    repeat' (first
      | (refine s_g ?_; first
      | (refine s_k 0 rfl ?_; refine s_val rfl rfl rfl (r_move rfl rfl) ?_)
      | (refine s_k 8 rfl ?_; first | (refine' s_val rfl rfl rfl (r_ldv rfl rfl ?qm ?qv) ?_; (case qm => (exact zMm)); (case qv => (exact zLe))) | (refine' s_val rfl rfl rfl (r_ldo rfl rfl ?qw (by simp) ?qv) ?_; (case qw => assumption); (case qv => (exact zLe))))
      | (refine s_k 1 rfl ?_; refine s_val rfl rfl rfl (r_assign rfl rfl) ?_)
      | (refine s_k 13 rfl ?_; first | refine s_val rfl rfl rfl (r_lss rfl rfl rfl) ?_ | refine s_val rfl rfl rfl (r_add rfl rfl rfl (wrap_in (by simp only [lo, hi]; omega))) ?_)
      | (refine s_k 35 rfl ?_; (refine s_call Try.func57 (by kernel_rfl) rfl rfl rfl rfl rfl rfl (fun w hL => hOk w (Kn.old hL hg (by simp))) ?_))
      | (refine s_k 14 rfl ?_; refine s_val rfl rfl rfl (r_not rfl rfl) ?_)
      | (refine s_k 25 rfl ?_; first | refine s_val rfl rfl rfl (r_ixN tb rfl rfl rfl rfl (by omega)) ?_ | refine s_val rfl rfl rfl (r_ixA tb rfl rfl rfl rfl (by omega) (by omega)) ?_ | refine s_val rfl rfl rfl (r_ixO tb rfl rfl rfl rfl (by omega)) ?_)
      | (refine s_k 36 rfl ?_; refine s_val rfl rfl rfl (r_len tb rfl rfl rfl) ?_)
      | refine s_nil ?_)
      | (refine c_g ?_; first | refine c_seq ?_ | refine c_region ?_ | (refine c_gc ?_; first | refine c_cond1 rfl zTr ?_ | refine c_cond0 rfl zTr ?_ | refine z_condd1 rfl ?_ | refine z_condd0 rfl ?_ | refine z_conddn1 rfl ?_ | refine z_conddn0 rfl ?_ | refine c_condd rfl (fun hc => ?_) (fun hc => ?_) | refine c_conddn rfl (fun hc => ?_) (fun hc => ?_) | refine c_condn rfl (fun hc => ?_) (fun hc => ?_) | refine c_cond rfl (fun hc => ?_) (fun hc => ?_)) | refine c_block ?_ | refine c_skip ?_ | refine c_exit ?_ | refine c_ret ?_)
      | (refine e_g ?_; first | refine e_then ?_ | refine e_blkn ?_ | refine e_thenx ?_ | refine e_thenr ?_ | refine e_blkr ?_ | refine e_blkx ?_ | refine e_blky rfl ?_)
      | (refine e_ret1 (by simp) rfl (re_tmp rfl) fun w hL => ⟨rfl, hL.toBelow⟩))
  case true =>
    obtain ⟨ha, hb⟩ := valid_le2 hv
    have hc : cellC p l = if l.any fun g => !isC (p 0) (p 1) g.x g.y then 2 else 0 := by unfold cellC; rw [hv]; rfl
    rw [hc]
    rw [hv] at hOk
    refine enter2 Try.func40 rfl rfl rfl (Own.start w) ?_
    repeat' (first
      | (refine s_g ?_; first
      | (refine s_k 0 rfl ?_; refine s_val rfl rfl rfl (r_move rfl rfl) ?_)
      | (refine s_k 8 rfl ?_; first | (refine' s_val rfl rfl rfl (r_ldv rfl rfl ?qm ?qv) ?_; (case qm => (exact zMm)); (case qv => (exact zLe))) | (refine' s_val rfl rfl rfl (r_ldo rfl rfl ?qw (by simp) ?qv) ?_; (case qw => assumption); (case qv => (exact zLe))))
      | (refine s_k 1 rfl ?_; refine s_val rfl rfl rfl (r_assign rfl rfl) ?_)
      | (refine s_k 13 rfl ?_; first | refine s_val rfl rfl rfl (r_lss rfl rfl rfl) ?_ | refine s_val rfl rfl rfl (r_add rfl rfl rfl (wrap_in (by simp only [lo, hi]; omega))) ?_)
      | (refine s_k 35 rfl ?_; (refine s_call Try.func57 (by kernel_rfl) rfl rfl rfl rfl rfl rfl (fun w hL => hOk w (Kn.old hL hg (by simp))) ?_))
      | (refine s_k 14 rfl ?_; refine s_val rfl rfl rfl (r_not rfl rfl) ?_)
      | (refine s_k 25 rfl ?_; first | refine s_val rfl rfl rfl (r_ixN tb rfl rfl rfl rfl (by omega)) ?_ | refine s_val rfl rfl rfl (r_ixA tb rfl rfl rfl rfl (by omega) (by omega)) ?_ | refine s_val rfl rfl rfl (r_ixO tb rfl rfl rfl rfl (by omega)) ?_)
      | (refine s_k 36 rfl ?_; refine s_val rfl rfl rfl (r_len tb rfl rfl rfl) ?_)
      | refine s_nil ?_)
      | (refine c_g ?_; first | refine c_seq ?_ | refine c_region ?_ | (refine c_gc ?_; first | refine c_cond1 rfl zTr ?_ | refine c_cond0 rfl zTr ?_ | refine z_condd1 rfl ?_ | refine z_condd0 rfl ?_ | refine z_conddn1 rfl ?_ | refine z_conddn0 rfl ?_ | refine c_condd rfl (fun hc => ?_) (fun hc => ?_) | refine c_conddn rfl (fun hc => ?_) (fun hc => ?_) | refine c_condn rfl (fun hc => ?_) (fun hc => ?_) | refine c_cond rfl (fun hc => ?_) (fun hc => ?_)) | refine c_block ?_ | refine c_skip ?_ | refine c_exit ?_ | refine c_ret ?_)
      | (refine e_g ?_; first | refine e_then ?_ | refine e_blkn ?_ | refine e_thenx ?_ | refine e_thenr ?_ | refine e_blkr ?_ | refine e_blkx ?_ | refine e_blky rfl ?_))
    refine c_loop (ι := Nat) (fun i => l.length - i) (fun i => i ≤ l.length ∧ (l.take i).any (fun g => !isC (p 0) (p 1) g.x g.y) = false) (fun i => [(5, .int .i64 (i : Int)), (0, .pointer (some ⟨gp, 0, none⟩)), (1, .slice A l.length cap)]) (fun i => []) 0 ⟨by simp, by simp⟩ ?hs rfl ?_
    case hs => (repeat' (first | exact sub_nil | refine sub_cons rfl ?_))
    rintro k ⟨hk, hq⟩
    by_cases hlt : k < l.length
    · have hx : l[k]? = some l[k] := List.getElem?_eq_getElem hlt
      have hx' : (l.map Sp.cells)[k]? = some l[k].cells := by simp [hx]
      have hlt' : k < (l.map Sp.cells).length := by simpa using hlt
      have hco := hok _ (List.getElem_mem hlt)
      have hmem := List.getElem_mem hlt
      have hst : (l.take (k + 1)).any (fun g => !isC (p 0) (p 1) g.x g.y) = !isC (p 0) (p 1) l[k].x l[k].y := by
        rw [List.take_add_one, hx, List.any_append, hq]; simp
      generalize l[k] = c at *
      have his := fun w hg => l01Is_any p cs T gp c.x c.y w hp hg ha hb ⟨hco.1, hco.2.1⟩ hco.2.2
      cases hic : isC (p 0) (p 1) c.x c.y
      case' false => have hany : l.any (fun g => !isC (p 0) (p 1) g.x g.y) = true := List.any_eq_true.2 ⟨c, hmem, by rw [hic]; rfl⟩
      case' true => have hany := 0
      all_goals
        rw [hic] at his hst
        repeat' (first
          | (refine s_g ?_; first
      | (refine s_k 0 rfl ?_; refine s_val rfl rfl rfl (r_move rfl rfl) ?_)
      | (refine s_k 8 rfl ?_; first | refine s_val rfl rfl rfl (r_ldS tb rfl hS rfl hx' rfl) ?_ | (refine' s_val rfl rfl rfl (r_ldv rfl rfl ?qm ?qv) ?_; (case qm => (exact zMm)); (case qv => (exact zLe))) | (refine' s_val rfl rfl rfl (r_ldo rfl rfl ?qw (by simp) ?qv) ?_; (case qw => assumption); (case qv => (exact zLe))))
      | (refine s_k 1 rfl ?_; refine s_val rfl rfl rfl (r_assign rfl rfl) ?_)
      | (refine s_k 13 rfl ?_; first | refine s_val rfl rfl rfl (r_lss rfl rfl rfl) ?_ | refine s_val rfl rfl rfl (r_add rfl rfl rfl (wrap_in (by simp only [lo, hi]; omega))) ?_)
      | (refine s_k 35 rfl ?_; (refine s_call Try.func90 (by kernel_rfl) rfl rfl rfl rfl rfl rfl (fun w hL => his w (Kn.old hL hg (by simp))) ?_))
      | (refine s_k 14 rfl ?_; refine s_val rfl rfl rfl (r_not rfl rfl) ?_)
      | (refine s_k 25 rfl ?_; first | refine s_val rfl rfl rfl (r_ixS tb rfl hS rfl rfl rfl (by simp) hlt') ?_ | refine s_val rfl rfl rfl (r_ixN tb rfl rfl rfl rfl (by omega)) ?_ | refine s_val rfl rfl rfl (r_ixA tb rfl rfl rfl rfl (by omega) (by omega)) ?_ | refine s_val rfl rfl rfl (r_ixO tb rfl rfl rfl rfl (by omega)) ?_)
      | (refine s_k 36 rfl ?_; refine s_val rfl rfl rfl (r_len tb rfl rfl rfl) ?_)
      | refine s_nil ?_)
          | (refine c_g ?_; first | refine c_seq ?_ | refine c_region ?_ | (refine c_gc ?_; first | refine c_cond1 rfl zTr ?_ | refine c_cond0 rfl zTr ?_ | refine z_condd1 rfl ?_ | refine z_condd0 rfl ?_ | refine z_conddn1 rfl ?_ | refine z_conddn0 rfl ?_ | refine c_condd rfl (fun hc => ?_) (fun hc => ?_) | refine c_conddn rfl (fun hc => ?_) (fun hc => ?_) | refine c_condn rfl (fun hc => ?_) (fun hc => ?_) | refine c_cond rfl (fun hc => ?_) (fun hc => ?_)) | refine c_block ?_ | refine c_skip ?_ | refine c_exit ?_ | refine c_ret ?_)
          | (refine e_g ?_; first | refine e_then ?_ | refine e_blkn ?_ | refine e_thenx ?_ | refine e_thenr ?_ | refine e_blkr ?_ | refine e_blkx ?_ | refine e_blky rfl ?_)
          | (refine e_round (k + 1) (by omega) ⟨by omega, hst⟩ ?_ rfl; (repeat' (first | exact sub_nil | refine sub_cons rfl ?_)))
          | (refine e_ret1 (by simp) rfl (re_tmp rfl) fun w hL => ⟨by rw [hany]; rfl, hL.toBelow⟩))
    · have hkl : k = l.length := by omega
      subst hkl
      rw [List.take_length] at hq
      rw [hq]
      repeat' (first
        | (refine s_g ?_; first
      | (refine s_k 0 rfl ?_; refine s_val rfl rfl rfl (r_move rfl rfl) ?_)
      | (refine s_k 8 rfl ?_; first | (refine' s_val rfl rfl rfl (r_ldv rfl rfl ?qm ?qv) ?_; (case qm => (exact zMm)); (case qv => (exact zLe))) | (refine' s_val rfl rfl rfl (r_ldo rfl rfl ?qw (by simp) ?qv) ?_; (case qw => assumption); (case qv => (exact zLe))))
      | (refine s_k 1 rfl ?_; refine s_val rfl rfl rfl (r_assign rfl rfl) ?_)
      | (refine s_k 13 rfl ?_; first | refine s_val rfl rfl rfl (r_lss rfl rfl rfl) ?_ | refine s_val rfl rfl rfl (r_add rfl rfl rfl (wrap_in (by simp only [lo, hi]; omega))) ?_)
      | (refine s_k 14 rfl ?_; refine s_val rfl rfl rfl (r_not rfl rfl) ?_)
      | (refine s_k 25 rfl ?_; first | refine s_val rfl rfl rfl (r_ixN tb rfl rfl rfl rfl (by omega)) ?_ | refine s_val rfl rfl rfl (r_ixA tb rfl rfl rfl rfl (by omega) (by omega)) ?_ | refine s_val rfl rfl rfl (r_ixO tb rfl rfl rfl rfl (by omega)) ?_)
      | (refine s_k 36 rfl ?_; refine s_val rfl rfl rfl (r_len tb rfl rfl rfl) ?_)
      | refine s_nil ?_)
        | (refine c_g ?_; first | refine c_seq ?_ | refine c_region ?_ | (refine c_gc ?_; first | refine c_cond1 rfl zTr ?_ | refine c_cond0 rfl zTr ?_ | refine z_condd1 rfl ?_ | refine z_condd0 rfl ?_ | refine z_conddn1 rfl ?_ | refine z_conddn0 rfl ?_ | refine c_condd rfl (fun hc => ?_) (fun hc => ?_) | refine c_conddn rfl (fun hc => ?_) (fun hc => ?_) | refine c_condn rfl (fun hc => ?_) (fun hc => ?_) | refine c_cond rfl (fun hc => ?_) (fun hc => ?_)) | refine c_block ?_ | refine c_skip ?_ | refine c_exit ?_ | refine c_ret ?_)
        | (refine e_g ?_; first | refine e_then ?_ | refine e_blkn ?_ | refine e_thenx ?_ | refine e_thenr ?_ | refine e_blkr ?_ | refine e_blkx ?_ | refine e_blky rfl ?_)
        | (refine e_ret1 (by simp) rfl (re_tmp rfl) fun w hL => ⟨rfl, hL.toBelow⟩))
end Go.Proofs.Ytnfdefeafhepkaa
/- CheckPart: what it says, and the reference's. No condition but lengths of at most 2^20. -/
namespace Go.Proofs.Ytnfdefeafhepkaa
set_option linter.unusedVariables false
set_option linter.unusedSimpArgs false
open Go.RowKit Mem Wk
attribute [local irreducible] Calls Wk.S Wk.C Wk.E Wk.X Wk.T Wk.Y Wk.anV Wk.orV Wk.andV Wk.shlV Wk.shrV Calm.wpLex CalmB.wpLex bfsN bfs
theorem cellC_app (p : Nat → Int) (a b : List Sp) : cellC p (a ++ b) = if cellC p a = 0 then cellC p b else cellC p a := by
  unfold cellC
  cases hv : validP p
  · simp
  · simp only [List.any_append, if_true]
    cases a.any fun g => !isC (p 0) (p 1) g.x g.y <;> simp
set_option maxRecDepth 100000 in
theorem l03Lists_any (p : Nat → Int) (cs : Array Value) (T : TypeId) (gp : Nat) (a b : List Sp) (va vb : Value) (w : World) (hp : Pv p cs) (hg : w.heap[gp]? = some (.cells cs T (0, 0))) (hUa : Sl w 2 va (a.map Sp.cells)) (hUb : Sl w 2 vb (b.map Sp.cells)) (hna : a.length ≤ 1048576) (hnb : b.length ≤ 1048576) (hoa : ∀ c ∈ a, c.ok) (hob : ∀ c ∈ b, c.ok) :
    Calls Try.prog 39 #[.pointer (some ⟨gp, 0, none⟩), va, vb] w fun e w' => e = .returned (.int .i64 (cellC p (a ++ b))) ∧ Below w.heap.size w w' := by
  rw [cellC_app]
  obtain ⟨A, capa, rfl, _, _, hSa⟩ := hUa.open
  obtain ⟨B, capb, rfl, _, _, hSb⟩ := hUb.open
  rw [List.length_map, List.length_map]
  have h1 := fun w hg hS => l01All_any p cs T gp a A capa w hp hg hS hna hoa
  have h2 := fun w hg hS => l01All_any p cs T gp b B capb w hp hg hS hnb hob
  by_cases h0 : cellC p a = 0
  · rw [if_pos h0]
    rw [h0] at h1
    refine enter3 Try.func39 rfl rfl rfl (Own.start w) ?_
    repeat' (first
      | (refine s_g ?_; first
      | (refine s_k 0 rfl ?_; refine s_val rfl rfl rfl (r_move rfl rfl) ?_)
      | (refine s_k 1 rfl ?_; refine s_val rfl rfl rfl (r_assign rfl rfl) ?_)
      | (refine s_k 13 rfl ?_; refine s_val rfl rfl rfl (r_neq rfl rfl rfl) ?_)
      | (refine s_k 35 rfl ?_; first | (refine s_call Try.func40 (by kernel_rfl) rfl rfl rfl rfl rfl rfl (fun w hL => h1 w (Kn.old hL hg (by simp)) (hSa.at_ hL)) ?_) | (refine s_call Try.func40 (by kernel_rfl) rfl rfl rfl rfl rfl rfl (fun w hL => h2 w (Kn.old hL hg (by simp)) (hSb.at_ hL)) ?_))
      | refine s_nil ?_)
      | (refine c_g ?_; first | refine c_seq ?_ | refine c_region ?_ | (refine c_gc ?_; first | refine c_cond1 rfl zTr ?_ | refine c_cond0 rfl zTr ?_ | refine z_condd1 rfl ?_ | refine z_condd0 rfl ?_ | refine z_conddn1 rfl ?_ | refine z_conddn0 rfl ?_ | refine c_condd rfl (fun hc => ?_) (fun hc => ?_) | refine c_conddn rfl (fun hc => ?_) (fun hc => ?_) | refine c_condn rfl (fun hc => ?_) (fun hc => ?_) | refine c_cond rfl (fun hc => ?_) (fun hc => ?_)) | refine c_block ?_ | refine c_skip ?_ | refine c_exit ?_ | refine c_ret ?_)
      | (refine e_g ?_; first | refine e_then ?_ | refine e_blkn ?_ | refine e_thenx ?_ | refine e_thenr ?_ | refine e_blkr ?_ | refine e_blkx ?_ | refine e_blky rfl ?_)
      | (refine e_ret1 (by simp) rfl (re_tmp rfl) fun w hL => ⟨rfl, hL.toBelow⟩))
  · rw [if_neg h0]
    generalize cellC p a = c at *
    refine enter3 Try.func39 rfl rfl rfl (Own.start w) ?_
    repeat' (first
      | (refine s_g ?_; first
      | (refine s_k 0 rfl ?_; refine s_val rfl rfl rfl (r_move rfl rfl) ?_)
      | (refine s_k 1 rfl ?_; refine s_val rfl rfl rfl (r_assign rfl rfl) ?_)
      | (refine s_k 13 rfl ?_; refine s_val rfl rfl rfl (r_neq rfl rfl rfl) ?_)
      | (refine s_k 35 rfl ?_; (refine s_call Try.func40 (by kernel_rfl) rfl rfl rfl rfl rfl rfl (fun w hL => h1 w (Kn.old hL hg (by simp)) (hSa.at_ hL)) ?_))
      | refine s_nil ?_)
      | (refine c_g ?_; first | refine c_seq ?_ | refine c_region ?_ | (refine c_gc ?_; first | refine c_cond1 rfl zTr ?_ | refine c_cond0 rfl zTr ?_ | refine z_condd1 rfl ?_ | refine z_condd0 rfl ?_ | refine z_conddn1 rfl ?_ | refine z_conddn0 rfl ?_ | refine c_condd rfl (fun hc => ?_) (fun hc => ?_) | refine c_conddn rfl (fun hc => ?_) (fun hc => ?_) | refine c_condn rfl (fun hc => ?_) (fun hc => ?_) | refine c_cond rfl (fun hc => ?_) (fun hc => ?_)) | refine c_block ?_ | refine c_skip ?_ | refine c_exit ?_ | refine c_ret ?_)
      | (refine e_g ?_; first | refine e_then ?_ | refine e_blkn ?_ | refine e_thenx ?_ | refine e_thenr ?_ | refine e_blkr ?_ | refine e_blkx ?_ | refine e_blky rfl ?_)
      | (refine e_ret1 (by simp) rfl (re_tmp rfl) fun w hL => ⟨rfl, hL.toBelow⟩))
end Go.Proofs.Ytnfdefeafhepkaa
