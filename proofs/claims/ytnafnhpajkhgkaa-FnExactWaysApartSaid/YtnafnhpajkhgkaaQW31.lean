import Derived.Test.YtnafnhpajkhgkaaQW16
import Derived.Test.YtnafnhpajkhgkaaQW24
/- Lists of cells, the reference's: their code, their mask. No condition but a length of at most 2^20. -/
namespace Go.Proofs.Ytnafnhpajkhgkaa
set_option linter.unusedVariables false
set_option linter.unusedSimpArgs false
open Go.RowKit Mem Wk
attribute [local irreducible] Calls Wk.S Wk.C Wk.E Wk.X Wk.T Wk.Y Wk.anV Wk.orV Wk.andV Wk.shlV Wk.shrV Calm.wpLex CalmB.wpLex bfsN
theorem valid_leA {p : Nat → Int} (h : validP p = true) : p 0 ≤ 10 ∧ p 1 ≤ 10 := by
  unfold validP inB at h; simp at h; omega
theorem cellC_0 {p : Nat → Int} {l : List Sp} (h : cellC p l = 0) : validP p = true ∧ ∀ c ∈ l, isC (p 0) (p 1) c.x c.y = true := by
  unfold cellC at h
  split at h
  · split at h
    · cases h
    · rename_i h1 h2
      refine ⟨h1, fun c hc => ?_⟩
      simp only [List.any_eq_true, not_exists, not_and] at h2
      have := h2 c hc
      simpa using this
  · cases h
set_option maxRecDepth 100000 in
theorem l01All_any (p : Nat → Int) (cs : Array Value) (T : TypeId) (gp : Nat) (l : List Sp) (A : Option Addr) (cap : Nat) (w : World) (hp : Pv p cs) (hg : w.heap[gp]? = some (.cells cs T (0, 0))) (hS : SlA [] w 2 A (l.map Sp.cells)) (hn : l.length ≤ 1048576) (hok : ∀ c ∈ l, c.ok) :
    Calls Try.prog 55 #[.pointer (some ⟨gp, 0, none⟩), .slice A l.length cap] w fun e w' => e = .returned (.int .i64 (cellC p l)) ∧ Below w.heap.size w w' := by
  have hOk := fun w hg => l01Ok_any p cs T gp w hp hg
  cases hv : validP p
  case false =>
    have hc : cellC p l = 1 := by unfold cellC; rw [hv]; rfl
    rw [hc]
    rw [hv] at hOk
    refine enter2 Try.func55 rfl rfl rfl (Own.start w) ?_
    repeat' (first
      | (refine s_g ?_; first
      | (refine s_k 0 rfl ?_; refine s_val rfl rfl rfl (r_move rfl rfl) ?_)
      | (refine s_k 8 rfl ?_; first | (refine' s_val rfl rfl rfl (r_ldv rfl rfl ?qm ?qv) ?_; (case qm => (exact zMm)); (case qv => (exact zLe))) | (refine' s_val rfl rfl rfl (r_ldo rfl rfl ?qw (by simp) ?qv) ?_; (case qw => assumption); (case qv => (exact zLe))))
      | (refine s_k 1 rfl ?_; refine s_val rfl rfl rfl (r_assign rfl rfl) ?_)
      | (refine s_k 13 rfl ?_; first | refine s_val rfl rfl rfl (r_lss rfl rfl rfl) ?_ | refine s_val rfl rfl rfl (r_add rfl rfl rfl (wrap_in (by simp only [lo, hi]; omega))) ?_)
      | (refine s_k 35 rfl ?_; (refine s_call Try.func87 (by kernel_rfl) rfl rfl rfl rfl rfl rfl (fun w hL => hOk w (Kn.old hL hg (by simp))) ?_))
      | (refine s_k 14 rfl ?_; refine s_val rfl rfl rfl (r_not rfl rfl) ?_)
      | (refine s_k 25 rfl ?_; first | refine s_val rfl rfl rfl (r_ixN tb rfl rfl rfl rfl (by omega)) ?_ | refine s_val rfl rfl rfl (r_ixA tb rfl rfl rfl rfl (by omega) (by omega)) ?_ | refine s_val rfl rfl rfl (r_ixO tb rfl rfl rfl rfl (by omega)) ?_)
      | (refine s_k 36 rfl ?_; refine s_val rfl rfl rfl (r_len tb rfl rfl rfl) ?_)
      | refine s_nil ?_)
      | (refine c_g ?_; first | refine c_seq ?_ | refine c_region ?_ | (refine c_gc ?_; first | refine c_cond1 rfl zTr ?_ | refine c_cond0 rfl zTr ?_ | refine z_condd1 rfl ?_ | refine z_condd0 rfl ?_ | refine z_conddn1 rfl ?_ | refine z_conddn0 rfl ?_ | refine c_condd rfl (fun hc => ?_) (fun hc => ?_) | refine c_conddn rfl (fun hc => ?_) (fun hc => ?_) | refine c_condn rfl (fun hc => ?_) (fun hc => ?_) | refine c_cond rfl (fun hc => ?_) (fun hc => ?_)) | refine c_block ?_ | refine c_skip ?_ | refine c_exit ?_ | refine c_ret ?_)
      | (refine e_g ?_; first | refine e_then ?_ | refine e_blkn ?_ | refine e_thenx ?_ | refine e_thenr ?_ | refine e_blkr ?_ | refine e_blkx ?_ | refine e_blky rfl ?_)
      | (refine e_ret1 (by simp) rfl (re_tmp rfl) fun w hL => ⟨rfl, hL.toBelow⟩))
  case true =>
    obtain ⟨ha, hb⟩ := valid_leA hv
    have hc : cellC p l = if l.any fun g => !isC (p 0) (p 1) g.x g.y then 2 else 0 := by unfold cellC; rw [hv]; rfl
    rw [hc]
    rw [hv] at hOk
    refine enter2 Try.func55 rfl rfl rfl (Own.start w) ?_
    repeat' (first
      | (refine s_g ?_; first
      | (refine s_k 0 rfl ?_; refine s_val rfl rfl rfl (r_move rfl rfl) ?_)
      | (refine s_k 8 rfl ?_; first | (refine' s_val rfl rfl rfl (r_ldv rfl rfl ?qm ?qv) ?_; (case qm => (exact zMm)); (case qv => (exact zLe))) | (refine' s_val rfl rfl rfl (r_ldo rfl rfl ?qw (by simp) ?qv) ?_; (case qw => assumption); (case qv => (exact zLe))))
      | (refine s_k 1 rfl ?_; refine s_val rfl rfl rfl (r_assign rfl rfl) ?_)
      | (refine s_k 13 rfl ?_; first | refine s_val rfl rfl rfl (r_lss rfl rfl rfl) ?_ | refine s_val rfl rfl rfl (r_add rfl rfl rfl (wrap_in (by simp only [lo, hi]; omega))) ?_)
      | (refine s_k 35 rfl ?_; (refine s_call Try.func87 (by kernel_rfl) rfl rfl rfl rfl rfl rfl (fun w hL => hOk w (Kn.old hL hg (by simp))) ?_))
      | (refine s_k 14 rfl ?_; refine s_val rfl rfl rfl (r_not rfl rfl) ?_)
      | (refine s_k 25 rfl ?_; first | refine s_val rfl rfl rfl (r_ixN tb rfl rfl rfl rfl (by omega)) ?_ | refine s_val rfl rfl rfl (r_ixA tb rfl rfl rfl rfl (by omega) (by omega)) ?_ | refine s_val rfl rfl rfl (r_ixO tb rfl rfl rfl rfl (by omega)) ?_)
      | (refine s_k 36 rfl ?_; refine s_val rfl rfl rfl (r_len tb rfl rfl rfl) ?_)
      | refine s_nil ?_)
      | (refine c_g ?_; first | refine c_seq ?_ | refine c_region ?_ | (refine c_gc ?_; first | refine c_cond1 rfl zTr ?_ | refine c_cond0 rfl zTr ?_ | refine z_condd1 rfl ?_ | refine z_condd0 rfl ?_ | refine z_conddn1 rfl ?_ | refine z_conddn0 rfl ?_ | refine c_condd rfl (fun hc => ?_) (fun hc => ?_) | refine c_conddn rfl (fun hc => ?_) (fun hc => ?_) | refine c_condn rfl (fun hc => ?_) (fun hc => ?_) | refine c_cond rfl (fun hc => ?_) (fun hc => ?_)) | refine c_block ?_ | refine c_skip ?_ | refine c_exit ?_ | refine c_ret ?_)
      | (refine e_g ?_; first | refine e_then ?_ | refine e_blkn ?_ | refine e_thenx ?_ | refine e_thenr ?_ | refine e_blkr ?_ | refine e_blkx ?_ | refine e_blky rfl ?_))
    refine c_loop (ι := Nat) (fun i => l.length - i) (fun i => i ≤ l.length ∧ (l.take i).any (fun g => !isC (p 0) (p 1) g.x g.y) = false) (fun i => [(5, .int .i64 (i : Int)), (0, .pointer (some ⟨gp, 0, none⟩)), (1, .slice A l.length cap)]) (fun i => []) 0 ⟨by simp, by simp⟩ ?hs rfl ?_
    case hs => (repeat' (first | exact sub_nil | refine sub_cons rfl ?_))
    rintro k ⟨hk, hq⟩
    by_cases hlt : k < l.length
    · have hx : l[k]? = some l[k] := List.getElem?_eq_getElem hlt
      have hx' : (l.map Sp.cells)[k]? = some l[k].cells := by simp [hx]
      have hlt' : k < (l.map Sp.cells).length := by simpa using hlt
      have hco := hok _ (List.getElem_mem hlt)
      have hmem := List.getElem_mem hlt
      have hst : (l.take (k + 1)).any (fun g => !isC (p 0) (p 1) g.x g.y) = !isC (p 0) (p 1) l[k].x l[k].y := by
        rw [List.take_add_one, hx, List.any_append, hq]; simp
      generalize l[k] = c at *
      have his := fun w hg => l01Is_any p cs T gp c.x c.y w hp hg ha hb ⟨hco.1, hco.2.1⟩ hco.2.2
      cases hic : isC (p 0) (p 1) c.x c.y
      case' false => have hany : l.any (fun g => !isC (p 0) (p 1) g.x g.y) = true := List.any_eq_true.2 ⟨c, hmem, by rw [hic]; rfl⟩
      case' true => have hany := 0
      all_goals
        rw [hic] at his hst
        repeat' (first
          | (refine s_g ?_; first
      | (refine s_k 0 rfl ?_; refine s_val rfl rfl rfl (r_move rfl rfl) ?_)
      | (refine s_k 8 rfl ?_; first | refine s_val rfl rfl rfl (r_ldS tb rfl hS rfl hx' rfl) ?_ | (refine' s_val rfl rfl rfl (r_ldv rfl rfl ?qm ?qv) ?_; (case qm => (exact zMm)); (case qv => (exact zLe))) | (refine' s_val rfl rfl rfl (r_ldo rfl rfl ?qw (by simp) ?qv) ?_; (case qw => assumption); (case qv => (exact zLe))))
      | (refine s_k 1 rfl ?_; refine s_val rfl rfl rfl (r_assign rfl rfl) ?_)
      | (refine s_k 13 rfl ?_; first | refine s_val rfl rfl rfl (r_lss rfl rfl rfl) ?_ | refine s_val rfl rfl rfl (r_add rfl rfl rfl (wrap_in (by simp only [lo, hi]; omega))) ?_)
      | (refine s_k 35 rfl ?_; (refine s_call Try.func88 (by kernel_rfl) rfl rfl rfl rfl rfl rfl (fun w hL => his w (Kn.old hL hg (by simp))) ?_))
      | (refine s_k 14 rfl ?_; refine s_val rfl rfl rfl (r_not rfl rfl) ?_)
      | (refine s_k 25 rfl ?_; first | refine s_val rfl rfl rfl (r_ixS tb rfl hS rfl rfl rfl (by simp) hlt') ?_ | refine s_val rfl rfl rfl (r_ixN tb rfl rfl rfl rfl (by omega)) ?_ | refine s_val rfl rfl rfl (r_ixA tb rfl rfl rfl rfl (by omega) (by omega)) ?_ | refine s_val rfl rfl rfl (r_ixO tb rfl rfl rfl rfl (by omega)) ?_)
      | (refine s_k 36 rfl ?_; refine s_val rfl rfl rfl (r_len tb rfl rfl rfl) ?_)
      | refine s_nil ?_)
          | (refine c_g ?_; first | refine c_seq ?_ | refine c_region ?_ | (refine c_gc ?_; first | refine c_cond1 rfl zTr ?_ | refine c_cond0 rfl zTr ?_ | refine z_condd1 rfl ?_ | refine z_condd0 rfl ?_ | refine z_conddn1 rfl ?_ | refine z_conddn0 rfl ?_ | refine c_condd rfl (fun hc => ?_) (fun hc => ?_) | refine c_conddn rfl (fun hc => ?_) (fun hc => ?_) | refine c_condn rfl (fun hc => ?_) (fun hc => ?_) | refine c_cond rfl (fun hc => ?_) (fun hc => ?_)) | refine c_block ?_ | refine c_skip ?_ | refine c_exit ?_ | refine c_ret ?_)
          | (refine e_g ?_; first | refine e_then ?_ | refine e_blkn ?_ | refine e_thenx ?_ | refine e_thenr ?_ | refine e_blkr ?_ | refine e_blkx ?_ | refine e_blky rfl ?_)
          | (refine e_round (k + 1) (by omega) ⟨by omega, hst⟩ ?_ rfl; (repeat' (first | exact sub_nil | refine sub_cons rfl ?_)))
          | (refine e_ret1 (by simp) rfl (re_tmp rfl) fun w hL => ⟨by rw [hany]; rfl, hL.toBelow⟩))
    · have hkl : k = l.length := by omega
      subst hkl
      rw [List.take_length] at hq
      rw [hq]
      repeat' (first
        | (refine s_g ?_; first
      | (refine s_k 0 rfl ?_; refine s_val rfl rfl rfl (r_move rfl rfl) ?_)
      | (refine s_k 8 rfl ?_; first | (refine' s_val rfl rfl rfl (r_ldv rfl rfl ?qm ?qv) ?_; (case qm => (exact zMm)); (case qv => (exact zLe))) | (refine' s_val rfl rfl rfl (r_ldo rfl rfl ?qw (by simp) ?qv) ?_; (case qw => assumption); (case qv => (exact zLe))))
      | (refine s_k 1 rfl ?_; refine s_val rfl rfl rfl (r_assign rfl rfl) ?_)
      | (refine s_k 13 rfl ?_; first | refine s_val rfl rfl rfl (r_lss rfl rfl rfl) ?_ | refine s_val rfl rfl rfl (r_add rfl rfl rfl (wrap_in (by simp only [lo, hi]; omega))) ?_)
      | (refine s_k 14 rfl ?_; refine s_val rfl rfl rfl (r_not rfl rfl) ?_)
      | (refine s_k 25 rfl ?_; first | refine s_val rfl rfl rfl (r_ixN tb rfl rfl rfl rfl (by omega)) ?_ | refine s_val rfl rfl rfl (r_ixA tb rfl rfl rfl rfl (by omega) (by omega)) ?_ | refine s_val rfl rfl rfl (r_ixO tb rfl rfl rfl rfl (by omega)) ?_)
      | (refine s_k 36 rfl ?_; refine s_val rfl rfl rfl (r_len tb rfl rfl rfl) ?_)
      | refine s_nil ?_)
        | (refine c_g ?_; first | refine c_seq ?_ | refine c_region ?_ | (refine c_gc ?_; first | refine c_cond1 rfl zTr ?_ | refine c_cond0 rfl zTr ?_ | refine z_condd1 rfl ?_ | refine z_condd0 rfl ?_ | refine z_conddn1 rfl ?_ | refine z_conddn0 rfl ?_ | refine c_condd rfl (fun hc => ?_) (fun hc => ?_) | refine c_conddn rfl (fun hc => ?_) (fun hc => ?_) | refine c_condn rfl (fun hc => ?_) (fun hc => ?_) | refine c_cond rfl (fun hc => ?_) (fun hc => ?_)) | refine c_block ?_ | refine c_skip ?_ | refine c_exit ?_ | refine c_ret ?_)
        | (refine e_g ?_; first | refine e_then ?_ | refine e_blkn ?_ | refine e_thenx ?_ | refine e_thenr ?_ | refine e_blkr ?_ | refine e_blkx ?_ | refine e_blky rfl ?_)
        | (refine e_ret1 (by simp) rfl (re_tmp rfl) fun w hL => ⟨rfl, hL.toBelow⟩))
/-! the mask of a list -/
def mskF (l : List Sp) (j : Nat) : Bool := l.any fun s => decide (ci s = j)
theorem mskF_snoc (l : List Sp) {k : Nat} {c : Sp} (hk : l[k]? = some c) (j : Nat) : mskF (l.take (k + 1)) j = (mskF (l.take k) j || decide (ci c = j)) := by
  unfold mskF; rw [List.take_add_one, hk, List.any_append]; simp
theorem GB.mark {l : List Sp} {k : Nat} {c : Sp} {cs : Array Value} (h : GB (mskF (l.take k)) cs) (hk : l[k]? = some c) (hc : inR c) : GB (mskF (l.take (k + 1))) (cs.setIfInBounds (0 + c.y.toNat * 10 + c.x.toNat * 1) (.bool true)) := by
  have hci : ci c = 0 + c.y.toNat * 10 + c.x.toNat * 1 := by unfold ci; omega
  have hs := h.size
  have hlt : ci c < 100 := by have := hc; unfold inR at this; rw [hci]; omega
  rw [← hci]
  refine ⟨by simpa using hs, fun j hj => ?_⟩
  rw [mskF_snoc l hk j]
  by_cases e : ci c = j
  · subst e
    rw [Array.getElem?_setIfInBounds_self_of_lt (by omega)]; simp
  · rw [Array.getElem?_setIfInBounds_ne e, h.get j hj, decide_eq_false e, Bool.or_false]
set_option maxRecDepth 100000 in
set_option maxHeartbeats 800000 in
theorem l01Mask_any (l : List Sp) (T : TypeId) (gl cap : Nat) (cur : Array Value) (w : World) (hA : Ap 2 l.length cap cur (flS l)) (hg : w.heap[gl]? = some (.cells cur T (0, 0))) (hl : ∀ c ∈ l, inR c) :
    Calls Try.prog 56 #[.slice (some ⟨gl, 0, none⟩) l.length cap] w fun e w' => e = .returned (.agg (gbA (mskF l))) ∧ Below w.heap.size w w' := by
  have hmx := hA.max
  have hle := hA.le
  unfold maxLen at hmx
  refine enter1 Try.func56 rfl rfl rfl (Own.start w) ?_
  repeat' (first
    | (refine s_g ?_; first
      | (refine s_k 0 rfl ?_; refine s_val rfl rfl rfl (r_move rfl rfl) ?_)
      | (refine s_k 23 rfl ?_; first | refine s_val rfl rfl rfl (r_field tb rfl rfl rfl) ?_ | refine s_val rfl rfl rfl (r_fieldS tb rfl rfl rfl) ?_)
      | (refine s_k 8 rfl ?_; first | (refine' s_val rfl rfl rfl (r_ldv rfl rfl ?qm ?qv) ?_; (case qm => (exact zMm)); (case qv => (exact zLe))) | (refine' s_val rfl rfl rfl (r_ldo rfl rfl ?qw (by simp) ?qv) ?_; (case qw => assumption); (case qv => (exact zLe))))
      | (refine s_k 1 rfl ?_; refine s_val rfl rfl rfl (r_assign rfl rfl) ?_)
      | (refine s_k 13 rfl ?_; first | refine s_val rfl rfl rfl (r_lss rfl rfl rfl) ?_ | refine s_val rfl rfl rfl (r_add rfl rfl rfl (wrap_in (by simp only [lo, hi]; omega))) ?_)
      | (refine s_k 25 rfl ?_; first | refine s_val rfl rfl rfl (r_ixN tb rfl rfl rfl rfl (by omega)) ?_ | refine s_val rfl rfl rfl (r_ixA tb rfl rfl rfl rfl (by omega) (by omega)) ?_ | refine s_val rfl rfl rfl (r_ixO tb rfl rfl rfl rfl (by omega)) ?_)
      | (refine s_k 9 rfl ?_; (first | refine s_st1 tb rfl rfl rfl rfl rfl rfl rfl rfl ?_ | refine s_stA tb rfl rfl rfl rfl (by first | rfl | assumption | (apply Pv.size; assumption)) rfl rfl ?_); (first | refine' st0 ?qs ?_ | refine' st1 ?qs ?_ | refine' st2 ?qs ?_ | refine' st3 ?qs ?_ | refine' st4 ?qs ?_ | refine' st5 ?qs ?_ | refine' st6 ?qs ?_ | refine' st7 ?qs ?_ | refine' st8 ?qs ?_ | refine' st9 ?qs ?_ | refine' st10 ?qs ?_ | refine' st11 ?qs ?_); (case qs => (first | exact setB zFl_ok zFl_ok.size | exact zSet)))
      | (refine s_k 3 rfl ?_; refine s_allocA (t := 90) rfl zF1010 rfl rfl rfl fun blk => ?_)
      | (refine s_k 36 rfl ?_; refine s_val rfl rfl rfl (r_len tb rfl rfl rfl) ?_)
      | (refine s_k 5 rfl ?_; refine s_val rfl rfl rfl (r_build rfl rfl (fun w => bF1010 w)) ?_)
      | refine s_nil ?_)
    | (refine c_g ?_; first | refine c_seq ?_ | refine c_region ?_ | (refine c_gc ?_; first | refine c_cond1 rfl zTr ?_ | refine c_cond0 rfl zTr ?_ | refine z_condd1 rfl ?_ | refine z_condd0 rfl ?_ | refine z_conddn1 rfl ?_ | refine z_conddn0 rfl ?_ | refine c_condd rfl (fun hc => ?_) (fun hc => ?_) | refine c_conddn rfl (fun hc => ?_) (fun hc => ?_) | refine c_condn rfl (fun hc => ?_) (fun hc => ?_) | refine c_cond rfl (fun hc => ?_) (fun hc => ?_)) | refine c_block ?_ | refine c_skip ?_ | refine c_exit ?_ | refine c_ret ?_)
    | (refine e_g ?_; first | refine e_then ?_ | refine e_blkn ?_ | refine e_thenx ?_ | refine e_thenr ?_ | refine e_blkr ?_ | refine e_blkx ?_ | refine e_blky rfl ?_))
  rename_i b2
  refine c_loop (ι := Nat × Array Value) (fun i => l.length - i.1) (fun i => i.1 ≤ l.length ∧ GB (mskF (l.take i.1)) i.2) (fun i => [(4, .int .i64 (i.1 : Int)), (0, .slice (some ⟨gl, 0, none⟩) l.length cap), (3, .pointer (some ⟨blk, 0, none⟩)), (2, .pointer (some ⟨b2, 0, none⟩))]) (fun i => [(blk, 90, i.2), (b2, 90, zFl)]) (0, zFl) ⟨by simp, zFl_ok.congr (fun j hj => by simp [mskF])⟩ ?hs rfl ?_
  case hs => (repeat' (first | exact sub_nil | refine sub_cons rfl ?_))
  rintro ⟨k, c1⟩ ⟨hk, hq⟩
  simp only at hk hq ⊢
  have hqs := hq.size
  by_cases hlt : k < l.length
  · have hx : l[k]? = some l[k] := List.getElem?_eq_getElem hlt
    have hcr := hl _ (List.getElem_mem hlt)
    generalize l[k] = c at *
    have hxe := hA.cx hx
    have hye := hA.cy hx
    have hmk := hq.mark hx hcr
    have hrn : (0 ≤ c.x ∧ c.x < 10) ∧ 0 ≤ c.y ∧ c.y < 10 := ⟨⟨hcr.1, hcr.2.1⟩, hcr.2.2⟩
    repeat' (first
      | (refine s_g ?_; first
      | (refine s_k 0 rfl ?_; refine s_val rfl rfl rfl (r_move rfl rfl) ?_)
      | (refine s_k 23 rfl ?_; first | refine s_val rfl rfl rfl (r_field tb rfl rfl rfl) ?_ | refine s_val rfl rfl rfl (r_fieldS tb rfl rfl rfl) ?_)
      | (refine s_k 8 rfl ?_; first | refine s_val rfl rfl rfl (r_ldo rfl rfl hg (by simp) (ldv1 tb rfl hxe)) ?_ | refine s_val rfl rfl rfl (r_ldo rfl rfl hg (by simp) (ldv1 tb rfl hye)) ?_ | (refine' s_val rfl rfl rfl (r_ldv rfl rfl ?qm ?qv) ?_; (case qm => (exact zMm)); (case qv => (exact zLe))) | (refine' s_val rfl rfl rfl (r_ldo rfl rfl ?qw (by simp) ?qv) ?_; (case qw => assumption); (case qv => (exact zLe))))
      | (refine s_k 1 rfl ?_; refine s_val rfl rfl rfl (r_assign rfl rfl) ?_)
      | (refine s_k 13 rfl ?_; first | refine s_val rfl rfl rfl (r_lss rfl rfl rfl) ?_ | refine s_val rfl rfl rfl (r_add rfl rfl rfl (wrap_in (by simp only [lo, hi]; omega))) ?_)
      | (refine s_k 25 rfl ?_; first | refine s_val rfl rfl rfl (r_ixO tb rfl rfl rfl rfl hlt) ?_ | refine s_val rfl rfl rfl (r_ixN tb rfl rfl rfl rfl (by omega)) ?_ | refine s_val rfl rfl rfl (r_ixA tb rfl rfl rfl rfl (by omega) (by omega)) ?_ | refine s_val rfl rfl rfl (r_ixO tb rfl rfl rfl rfl (by omega)) ?_)
      | (refine s_k 9 rfl ?_; (first | refine s_st1 tb rfl rfl rfl rfl rfl rfl rfl rfl ?_ | refine s_stA tb rfl rfl rfl rfl (by first | rfl | assumption | (apply Pv.size; assumption)) rfl rfl ?_); (first | refine' st0 ?qs ?_ | refine' st1 ?qs ?_ | refine' st2 ?qs ?_ | refine' st3 ?qs ?_ | refine' st4 ?qs ?_ | refine' st5 ?qs ?_ | refine' st6 ?qs ?_ | refine' st7 ?qs ?_ | refine' st8 ?qs ?_ | refine' st9 ?qs ?_ | refine' st10 ?qs ?_ | refine' st11 ?qs ?_); (case qs => (first | exact set_one (by omega) rfl | exact zSet)); (first | (refine absA0 (GB (mskF (l.take (k + 1)))) hmk fun c3 hq3 => ?_) | skip))
      | (refine s_k 36 rfl ?_; refine s_val rfl rfl rfl (r_len tb rfl rfl rfl) ?_)
      | refine s_nil ?_)
      | (refine c_g ?_; first | refine c_seq ?_ | refine c_region ?_ | (refine c_gc ?_; first | refine c_cond1 rfl zTr ?_ | refine c_cond0 rfl zTr ?_ | refine z_condd1 rfl ?_ | refine z_condd0 rfl ?_ | refine z_conddn1 rfl ?_ | refine z_conddn0 rfl ?_ | refine c_condd rfl (fun hc => ?_) (fun hc => ?_) | refine c_conddn rfl (fun hc => ?_) (fun hc => ?_) | refine c_condn rfl (fun hc => ?_) (fun hc => ?_) | refine c_cond rfl (fun hc => ?_) (fun hc => ?_)) | refine c_block ?_ | refine c_skip ?_ | refine c_exit ?_ | refine c_ret ?_)
      | (refine e_g ?_; first | refine e_then ?_ | refine e_blkn ?_ | refine e_thenx ?_ | refine e_thenr ?_ | refine e_blkr ?_ | refine e_blkx ?_ | refine e_blky rfl ?_)
      | (refine x_g ?_; first
      | (refine x_k 0 rfl ?_; (refine x_val rfl rfl rfl (r_move rfl rfl) ?hp ?_; (case hp => exact rfl)))
      | (refine x_k 23 rfl ?_; first | (refine x_val rfl rfl rfl (r_field tb rfl rfl rfl) ?hp ?_; (case hp => exact rfl)) | (refine x_val rfl rfl rfl (r_fieldS tb rfl rfl rfl) ?hp ?_; (case hp => exact rfl)))
      | (refine x_k 8 rfl ?_; first | (refine x_val rfl rfl rfl (r_ldo rfl rfl hg (by simp) (ldv1 tb rfl hxe)) ?hp ?_; (case hp => exact rfl)) | (refine x_val rfl rfl rfl (r_ldo rfl rfl hg (by simp) (ldv1 tb rfl hye)) ?hp ?_; (case hp => exact rfl)) | (refine' x_val rfl rfl rfl (r_ldv rfl rfl ?qm ?qv) ?hp ?_; (case qm => (exact zMm)); (case qv => (exact zLe)); (case hp => exact rfl)) | (refine' x_val rfl rfl rfl (r_ldo rfl rfl ?qw (by simp) ?qv) ?hp ?_; (case qw => assumption); (case qv => (exact zLe)); (case hp => exact rfl)))
      | (refine x_k 1 rfl ?_; (refine x_val rfl rfl rfl (r_assign rfl rfl) ?hp ?_; (case hp => exact rfl)))
      | (refine x_k 13 rfl ?_; first | (refine x_val rfl rfl rfl (r_lss rfl rfl rfl) ?hp ?_; (case hp => exact rfl)) | (refine x_val rfl rfl rfl (r_add rfl rfl rfl (wrap_in (by simp only [lo, hi]; omega))) ?hp ?_; (case hp => exact rfl)))
      | (refine x_k 25 rfl ?_; first | (refine x_val rfl rfl rfl (r_ixO tb rfl rfl rfl rfl hlt) ?hp ?_; (case hp => exact rfl)) | (refine x_val rfl rfl rfl (r_ixN tb rfl rfl rfl rfl (by omega)) ?hp ?_; (case hp => exact rfl)) | (refine x_val rfl rfl rfl (r_ixA tb rfl rfl rfl rfl (by omega) (by omega)) ?hp ?_; (case hp => exact rfl)) | (refine x_val rfl rfl rfl (r_ixO tb rfl rfl rfl rfl (by omega)) ?hp ?_; (case hp => exact rfl)))
      | (refine x_k 9 rfl ?_; first | (refine' x_putA0 tb rfl rfl rfl rfl (by first | rfl | assumption | (apply Pv.size; assumption)) ?qs (by first | rfl | assumption | (apply Pv.size; assumption)) rfl rfl ?hp ?_; (case qs => (first | exact set_one (by omega) rfl | exact zSet)); (case hp => exact rfl)) | (refine' x_putA1 tb rfl rfl rfl rfl (by first | rfl | assumption | (apply Pv.size; assumption)) ?qs (by first | rfl | assumption | (apply Pv.size; assumption)) rfl rfl ?hp ?_; (case qs => (first | exact set_one (by omega) rfl | exact zSet)); (case hp => exact rfl)) | (refine' x_putA2 tb rfl rfl rfl rfl (by first | rfl | assumption | (apply Pv.size; assumption)) ?qs (by first | rfl | assumption | (apply Pv.size; assumption)) rfl rfl ?hp ?_; (case qs => (first | exact set_one (by omega) rfl | exact zSet)); (case hp => exact rfl)))
      | (refine x_k 36 rfl ?_; (refine x_val rfl rfl rfl (r_len tb rfl rfl rfl) ?hp ?_; (case hp => exact rfl)))
      | refine x_nil0 ?_
      | refine x_nil ?_)
      | (refine' c_drawXT (id := 5) 12 [(Sum.inl _ : Calm.Plan), (Sum.inl _ : Calm.Plan), (Sum.inl _ : Calm.Plan), (Sum.inl _ : Calm.Plan), (Sum.inl _ : Calm.Plan), (Sum.inl _ : Calm.Plan), (Sum.inl _ : Calm.Plan), (Sum.inl _ : Calm.Plan), (Sum.inl _ : Calm.Plan), (Sum.inl _ : Calm.Plan), (Sum.inl _ : Calm.Plan), (Sum.inl _ : Calm.Plan)] (by kernel_rfl) (by kernel_rfl) (by kernel_rfl) ?_)
      | refine e_tail ?_
      | (refine e_round (k + 1, c3) (by simp; omega) ⟨by simp; omega, hq3⟩ ?_ rfl; (repeat' (first | exact sub_nil | refine sub_cons rfl ?_))))
  · have hkl : k = l.length := by omega
    subst hkl
    rw [List.take_length] at hq
    have hfin := (gbA_ok (mskF l)).uniq hq
    rw [hfin]
    repeat' (first
      | (refine s_g ?_; first
      | (refine s_k 0 rfl ?_; refine s_val rfl rfl rfl (r_move rfl rfl) ?_)
      | (refine s_k 23 rfl ?_; first | refine s_val rfl rfl rfl (r_field tb rfl rfl rfl) ?_ | refine s_val rfl rfl rfl (r_fieldS tb rfl rfl rfl) ?_)
      | (refine s_k 8 rfl ?_; first | (refine' s_val rfl rfl rfl (r_ldv rfl rfl ?qm ?qv) ?_; (case qm => (exact zMm)); (case qv => (exact zLe))) | (refine' s_val rfl rfl rfl (r_ldo rfl rfl ?qw (by simp) ?qv) ?_; (case qw => assumption); (case qv => (exact zLe))))
      | (refine s_k 1 rfl ?_; refine s_val rfl rfl rfl (r_assign rfl rfl) ?_)
      | (refine s_k 13 rfl ?_; first | refine s_val rfl rfl rfl (r_lss rfl rfl rfl) ?_ | refine s_val rfl rfl rfl (r_add rfl rfl rfl (wrap_in (by simp only [lo, hi]; omega))) ?_)
      | (refine s_k 25 rfl ?_; first | refine s_val rfl rfl rfl (r_ixN tb rfl rfl rfl rfl (by omega)) ?_ | refine s_val rfl rfl rfl (r_ixA tb rfl rfl rfl rfl (by omega) (by omega)) ?_ | refine s_val rfl rfl rfl (r_ixO tb rfl rfl rfl rfl (by omega)) ?_)
      | (refine s_k 9 rfl ?_; (first | refine s_st1 tb rfl rfl rfl rfl rfl rfl rfl rfl ?_ | refine s_stA tb rfl rfl rfl rfl (by first | rfl | assumption | (apply Pv.size; assumption)) rfl rfl ?_); (first | refine' st0 ?qs ?_ | refine' st1 ?qs ?_ | refine' st2 ?qs ?_ | refine' st3 ?qs ?_ | refine' st4 ?qs ?_ | refine' st5 ?qs ?_ | refine' st6 ?qs ?_ | refine' st7 ?qs ?_ | refine' st8 ?qs ?_ | refine' st9 ?qs ?_ | refine' st10 ?qs ?_ | refine' st11 ?qs ?_); (case qs => (first | exact setB hq zFl_ok.size | exact zSet)))
      | (refine s_k 36 rfl ?_; refine s_val rfl rfl rfl (r_len tb rfl rfl rfl) ?_)
      | refine s_nil ?_)
      | (refine c_g ?_; first | refine c_seq ?_ | refine c_region ?_ | (refine c_gc ?_; first | refine c_cond1 rfl zTr ?_ | refine c_cond0 rfl zTr ?_ | refine z_condd1 rfl ?_ | refine z_condd0 rfl ?_ | refine z_conddn1 rfl ?_ | refine z_conddn0 rfl ?_ | refine c_condd rfl (fun hc => ?_) (fun hc => ?_) | refine c_conddn rfl (fun hc => ?_) (fun hc => ?_) | refine c_condn rfl (fun hc => ?_) (fun hc => ?_) | refine c_cond rfl (fun hc => ?_) (fun hc => ?_)) | refine c_block ?_ | refine c_skip ?_ | refine c_exit ?_ | refine c_ret ?_)
      | (refine e_g ?_; first | refine e_then ?_ | refine e_blkn ?_ | refine e_thenx ?_ | refine e_thenr ?_ | refine e_blkr ?_ | refine e_blkx ?_ | refine e_blky rfl ?_)
      | (refine e_ret1 (by simp) rfl (re_cell tb rfl m1 rfl hq.size) fun w hL => ⟨rfl, hL.toBelow⟩))
end Go.Proofs.Ytnafnhpajkhgkaa
