import Derived.Test.YtdnndidihedndaaRRQh17
import Derived.Test.YtdnndidihedndaaRRQh19
import Derived.Test.YtdnndidihedndaaRRQh21
import Derived.Test.YtdnndidihedndaaRRQh22
/- JoinYards: both functions. No condition. -/
namespace Go.Proofs.YtdnndidihedndaaRR
set_option linter.unusedVariables false
set_option linter.unusedSimpArgs false
open Go.RowKit Mem Wk
attribute [local irreducible] Calls Wk.S Wk.C Wk.E Wk.X Wk.T Wk.anV Wk.orV Wk.andV Wk.shlV Wk.shrV Calm.wpLex CalmB.wpLex bfsN putP hursL
def othS (h : Hd) : Sp := ⟨nextX h.x (sdOf h.s), nextY h.y (sdOf h.s)⟩
def apartB (q : Nat → Int) (h : Hd) : Bool := decide (strD q ⟨h.x, h.y⟩ (ci (othS h)) = 0)
def jnStep (st : (Nat → Int) × List Hd) (h : Hd) : (Nat → Int) × List Hd := if apartB st.1 h then (putP st.1 h.x h.y h.s false, st.2 ++ [h]) else st
def jnV (p : Nat → Int) (l : List Hd) : (Nat → Int) × List Hd := l.foldl jnStep (p, [])
theorem jnV_snoc (p : Nat → Int) (l : List Hd) {k : Nat} {h : Hd} (hk : l[k]? = some h) : jnV p (l.take (k + 1)) = jnStep (jnV p (l.take k)) h := by
  unfold jnV; rw [List.take_add_one, hk, List.foldl_append]; rfl
theorem jnStep_keep (st : (Nat → Int) × List Hd) (h : Hd) {i : Nat} (hi : i < 102) : (jnStep st h).1 i = st.1 i := by
  unfold jnStep; split
  · exact putP_keep _ _ _ _ _ hi
  · rfl
theorem jnFold_keep : ∀ (l : List Hd) (st : (Nat → Int) × List Hd) {i : Nat}, i < 102 → (l.foldl jnStep st).1 i = st.1 i
  | [], _, _, _ => rfl
  | h :: l, st, i, hi => by rw [List.foldl_cons, jnFold_keep l _ hi, jnStep_keep _ _ hi]
theorem jnV_keep (p : Nat → Int) (l : List Hd) {i : Nat} (hi : i < 102) : (jnV p l).1 i = p i := jnFold_keep l (p, []) hi
theorem jnFold_len : ∀ (l : List Hd) (st : (Nat → Int) × List Hd), (l.foldl jnStep st).2.length ≤ st.2.length + l.length
  | [], _ => by simp
  | h :: l, st => by
    rw [List.foldl_cons]
    have := jnFold_len l (jnStep st h)
    have : (jnStep st h).2.length ≤ st.2.length + 1 := by unfold jnStep; split <;> simp
    simp only [List.length_cons]; omega
theorem jnV_len (p : Nat → Int) (l : List Hd) : (jnV p l).2.length ≤ l.length := by have := jnFold_len l (p, []); simpa [jnV] using this
def joinL (p : Nat → Int) : List Hd := (jnV p (hursL p)).2
theorem joinL_len {p : Nat → Int} (h : validP p = true) : (joinL p).length ≤ 200 := Nat.le_trans (jnV_len _ _) (hursL_len h)
theorem isH_facts {p : Nat → Int} {h : Hd} (hh : isH p h = true) : inR ⟨h.x, h.y⟩ ∧ inR (othS h) := ⟨isC_range (isH_cells hh).1, isC_range (isH_cells hh).2⟩
set_option maxRecDepth 100000 in
set_option maxHeartbeats 1600000 in
theorem implJoin_ok (p : Nat → Int) (cs : Array Value) (w : World) (hp : Pv p cs) (hv : validP p = true) :
    Calls Try.prog 48 #[.agg cs] w (NewS2 70 3 (flH (joinL p)) 0 w) := by
  have hsz := hp.size
  have hle := hursL_len hv
  have hin : ∀ h ∈ hursL p, isH p h = true := fun h hm => hursL_isH hm
  have hhur := fun w => hurdles_any p cs w hp hv
  have hva := fun w => implValidPasture_any p cs w hp
  unfold joinL
  generalize hursL p = A at *
  refine enter1 Try.func48 rfl rfl rfl (Own.start w) ?_
  repeat' (first
    | (refine s_g ?_; first
      | (refine s_k 0 rfl ?_; refine s_val rfl rfl rfl (r_move rfl rfl) ?_)
      | (refine s_k 23 rfl ?_; first | refine s_val rfl rfl rfl (r_field tb rfl rfl rfl) ?_ | refine s_val rfl rfl rfl (r_fieldS tb rfl rfl rfl) ?_)
      | (refine s_k 8 rfl ?_; first | (refine' s_val rfl rfl rfl (r_ldv rfl rfl ?qm ?qv) ?_; (case qm => (exact zMm)); (case qv => (exact zLe))) | (refine' s_val rfl rfl rfl (r_ldo rfl rfl ?qw (by simp) ?qv) ?_; (case qw => assumption); (case qv => (exact zLe))))
      | (refine s_k 1 rfl ?_; refine s_val rfl rfl rfl (r_assign rfl rfl) ?_)
      | (refine s_k 13 rfl ?_; first | refine s_val rfl rfl rfl (r_lss rfl rfl rfl) ?_ | refine s_val rfl rfl rfl (r_add rfl rfl rfl (wrap_in (by simp only [lo, hi]; omega))) ?_)
      | (refine s_k 35 rfl ?_; first | (refine s_call Try.func142 (by kernel_rfl) rfl rfl rfl rfl rfl rfl (fun w hL => (by have q := hva w; rw [hv] at q; exact q)) ?_) | (refine s_callN Try.func143 (by kernel_rfl) rfl rfl rfl rfl rfl rfl (fun w hL => hhur w) fun ga ka capa cura hAa => ?_))
      | (refine s_k 14 rfl ?_; refine s_val rfl rfl rfl (r_not rfl rfl) ?_)
      | (refine s_k 25 rfl ?_; first | refine s_val rfl rfl rfl (r_ixN tb rfl rfl rfl rfl (by omega)) ?_ | refine s_val rfl rfl rfl (r_ixA tb rfl rfl rfl rfl (by omega) (by omega)) ?_ | refine s_val rfl rfl rfl (r_ixO tb rfl rfl rfl rfl (by omega)) ?_)
      | (refine s_k 4 rfl ?_; first | refine s_boxA rfl rfl rfl rfl rfl fun blk => ?_ | refine s_box1 rfl rfl rfl rfl rfl rfl fun blk => ?_)
      | (refine s_k 9 rfl ?_; (first | refine s_st1 tb rfl rfl rfl rfl rfl rfl rfl rfl ?_ | refine s_stA tb rfl rfl rfl rfl (by first | rfl | assumption | (apply Pv.size; assumption)) rfl rfl ?_); (first | refine' st0 ?qs ?_ | refine' st1 ?qs ?_ | refine' st2 ?qs ?_ | refine' st3 ?qs ?_ | refine' st4 ?qs ?_ | refine' st5 ?qs ?_ | refine' st6 ?qs ?_ | refine' st7 ?qs ?_ | refine' st8 ?qs ?_ | refine' st9 ?qs ?_ | refine' st10 ?qs ?_ | refine' st11 ?qs ?_); (case qs => (first | exact zSet)))
      | (refine s_k 36 rfl ?_; refine s_val rfl rfl rfl (r_len tb rfl rfl rfl) ?_)
      | (refine s_k 6 rfl ?_; refine s_bsl rfl rfl (fun w => slHurdle0 w) rfl rfl rfl fun blk => ?_)
      | refine s_nil ?_)
    | (refine c_g ?_; first | refine c_seq ?_ | refine c_region ?_ | (refine c_gc ?_; first | refine c_cond1 rfl zTr ?_ | refine c_cond0 rfl zTr ?_ | refine z_condd1 rfl ?_ | refine z_condd0 rfl ?_ | refine z_conddn1 rfl ?_ | refine z_conddn0 rfl ?_ | refine c_condd rfl (fun hc => ?_) (fun hc => ?_) | refine c_conddn rfl (fun hc => ?_) (fun hc => ?_) | refine c_condn rfl (fun hc => ?_) (fun hc => ?_) | refine c_cond rfl (fun hc => ?_) (fun hc => ?_)) | refine c_block ?_ | refine c_skip ?_ | refine c_exit ?_ | refine c_ret ?_)
    | (refine e_g ?_; first | refine e_then ?_ | refine e_blkn ?_ | refine e_thenx ?_ | refine e_thenr ?_ | refine e_blkr ?_ | refine e_blkx ?_ | refine e_blky rfl ?_))
  rename_i b1
  obtain rfl : ka = A.length := by simpa using hAa.count (lenHd A) (by omega)
  refine c_loop (ι := Nat × (Nat → Int) × List Hd × Nat × Nat × Array Value × Array Value) (fun i => A.length - i.1) (fun i => i.1 ≤ A.length ∧ jnV p (A.take i.1) = (i.2.1, i.2.2.1) ∧ Pv i.2.1 i.2.2.2.2.2.2 ∧ Ap 3 i.2.2.1.length i.2.2.2.2.1 i.2.2.2.2.2.1 (flH i.2.2.1)) (fun i => [(15, .int .i64 (i.1 : Int)), (14, .int .i64 (A.length : Int)), (13, .slice (some ⟨ga, 0, none⟩) A.length capa), (4, .slice (some ⟨i.2.2.2.1, 0, none⟩) i.2.2.1.length i.2.2.2.2.1), (1, .pointer (some ⟨b1, 0, none⟩))]) (fun i => [(ga, 70, cura), (i.2.2.2.1, 70, i.2.2.2.2.2.1), (b1, 34, i.2.2.2.2.2.2)]) (0, p, [], blk, 0, #[], cs) ⟨by simp, by simp [jnV], hp, by simpa [flH] using Ap.nil 3⟩ ?hs rfl ?_
  case hs => (repeat' (first | exact sub_nil | refine sub_cons rfl ?_))
  rintro ⟨k, q, out, g, cap, cur, cq⟩ ⟨hk, hst, hq, hA⟩
  simp only at hk hst hq hA ⊢
  by_cases hlt : k < A.length
  · have hx : A[k]? = some A[k] := List.getElem?_eq_getElem hlt
    have hh := hin A[k] (List.getElem_mem hlt)
    have hsn := jnV_snoc p A hx
    have hol : out.length ≤ 200 := by have := jnV_len p (A.take k); rw [hst] at this; simp at this; omega
    rw [hst] at hsn
    generalize A[k] = h at *
    have hsp := hAa.hd hx
    obtain ⟨hr, hro⟩ := isH_facts hh
    have hD := strD_val q (o := ⟨h.x, h.y⟩) hr
    have hT := giA_ok .i16 1 (strD q ⟨h.x, h.y⟩)
    have hone : ∀ c ∈ [(⟨h.x, h.y⟩ : Sp)], inR c := fun c hcm => by simp at hcm; subst hcm; exact hr
    have hl1 : [(⟨h.x, h.y⟩ : Sp)].length ≤ 1048576 := by simp
    have hqsz := hq.size
    have hDo := hD (ci (othS h))
    have hoth := fun w => other_any h.x h.y h.s w (by have := hr; unfold inR at this; simp only at this; omega) (by have := hr; unfold inR at this; simp only at this; omega)
    have hfar := fun w b hS => far_any q cq [⟨h.x, h.y⟩] b 0 1 w hq hone hl1 hS
    have hat := fun w g T hg => farAtS (T := T) (g := g) (othS h) (w := w) hT hD hg hro
    by_cases hz : strD q ⟨h.x, h.y⟩ (ci (othS h)) = 0
    case' pos => have hj : jnStep (q, out) h = (putP q h.x h.y h.s false, out ++ [h]) := by unfold jnStep apartB; simp only [hz, decide_true, if_true]
    case' neg => have hj : jnStep (q, out) h = (q, out) := by unfold jnStep apartB; simp only [hz, decide_false, if_false, Bool.false_eq_true]
    all_goals
      rw [hj] at hsn
      repeat' (first
        | (refine s_g ?_; first
      | (refine s_k 0 rfl ?_; refine s_val rfl rfl rfl (r_move rfl rfl) ?_)
      | (refine s_k 23 rfl ?_; first | refine s_val rfl rfl rfl (r_field tb rfl rfl rfl) ?_ | refine s_val rfl rfl rfl (r_fieldS tb rfl rfl rfl) ?_)
      | (refine s_k 8 rfl ?_; first | refine s_val rfl rfl rfl (r_ldN tb rfl rfl m0 rfl hsp.1.1 hsp.1.2) ?_ | (refine' s_val rfl rfl rfl (r_ldv rfl rfl ?qm ?qv) ?_; (case qm => (exact zMm)); (case qv => (exact zLe))) | (refine' s_val rfl rfl rfl (r_ldo rfl rfl ?qw (by simp) ?qv) ?_; (case qw => assumption); (case qv => (exact zLe))))
      | (refine s_k 1 rfl ?_; refine s_val rfl rfl rfl (r_assign rfl rfl) ?_)
      | (refine s_k 13 rfl ?_; first | refine s_val rfl rfl rfl (r_lss rfl rfl rfl) ?_ | refine s_val rfl rfl rfl (r_add rfl rfl rfl (wrap_in (by simp only [lo, hi]; omega))) ?_)
      | (refine s_k 35 rfl ?_; first | (refine s_call Try.func144 (by kernel_rfl) rfl rfl rfl rfl rfl rfl (fun w hL => hfar w _ (one_slA ⟨h.x, h.y⟩ (hL.at_ m0))) ?_) | (refine s_call Try.func146 (by kernel_rfl) rfl rfl rfl rfl rfl rfl (fun w hL => hoth w) ?_) | (refine s_call Try.func145 (by kernel_rfl) rfl rfl rfl rfl rfl rfl (fun w hL => hat w _ _ (hL.at_ m0)) ?_) | (refine s_callM5 Try.func147 (by kernel_rfl) rfl rfl rfl rfl rfl rfl (fun w hL hg => put_any _ cq _ _ _ _ _ _ hq hg ⟨hr.1, hr.2.1⟩ hr.2.2) fun cs hp => ?_))
      | (refine s_k 14 rfl ?_; refine s_val rfl rfl rfl (r_not rfl rfl) ?_)
      | (refine s_k 25 rfl ?_; first | refine s_val rfl rfl rfl (r_ixO tb rfl rfl rfl rfl hlt) ?_ | refine s_val rfl rfl rfl (r_ixN tb rfl rfl rfl rfl (by omega)) ?_ | refine s_val rfl rfl rfl (r_ixA tb rfl rfl rfl rfl (by omega) (by omega)) ?_ | refine s_val rfl rfl rfl (r_ixO tb rfl rfl rfl rfl (by omega)) ?_)
      | (refine s_k 4 rfl ?_; first | refine s_boxA rfl rfl rfl rfl rfl fun blk => ?_ | refine s_box1 rfl rfl rfl rfl rfl rfl fun blk => ?_)
      | (refine s_k 9 rfl ?_; (first | refine s_st1 tb rfl rfl rfl rfl rfl rfl rfl rfl ?_ | refine s_stA tb rfl rfl rfl rfl (by first | rfl | assumption | (apply Pv.size; assumption)) rfl rfl ?_); (first | refine' st0 ?qs ?_ | refine' st1 ?qs ?_ | refine' st2 ?qs ?_ | refine' st3 ?qs ?_ | refine' st4 ?qs ?_ | refine' st5 ?qs ?_ | refine' st6 ?qs ?_ | refine' st7 ?qs ?_ | refine' st8 ?qs ?_ | refine' st9 ?qs ?_ | refine' st10 ?qs ?_ | refine' st11 ?qs ?_); (case qs => (first | exact set_whole (vs := h.cells.toArray) rfl (by simp [Hd.cells, Value.oneCell']) | exact setG (giA_ok _ _ _) zSt_ok.size | exact zSet)))
      | (refine s_k 3 rfl ?_; first | refine s_allocA (t := 70) rfl zImplHurdle rfl rfl rfl fun blk => ?_ | refine s_allocA (t := 176) rfl zStepsV rfl rfl rfl fun blk => ?_)
      | (refine s_k 36 rfl ?_; first | refine s_app4 hA rfl rfl rfl uHurdleS iHurdle rfl (by omega) (by simp) (by simp) rfl (by simp [Value.oneCell']) (by unfold maxLen; omega) (by omega) rfl rfl rfl fun g cap cur hA => ?_ | refine s_val rfl rfl rfl (r_len tb rfl rfl rfl) ?_)
      | (refine s_k 6 rfl ?_; first | refine s_bsl rfl rfl (fun w => slSpot1 _ _ w) rfl rfl rfl fun blk => ?_ | refine s_bsl rfl rfl (fun w => slHurdle1 _ _ _ w) rfl rfl rfl fun blk => ?_)
      | refine s_nil ?_)
        | (refine c_g ?_; first | refine c_seq ?_ | refine c_region ?_ | (refine c_gc ?_; first | refine c_cond1 rfl zTr ?_ | refine c_cond0 rfl zTr ?_ | refine z_condd1 rfl ?_ | refine z_condd0 rfl ?_ | refine z_conddn1 rfl ?_ | refine z_conddn0 rfl ?_ | refine c_condd rfl (fun hc => ?_) (fun hc => ?_) | refine c_conddn rfl (fun hc => ?_) (fun hc => ?_) | refine c_condn rfl (fun hc => ?_) (fun hc => ?_) | refine c_cond rfl (fun hc => ?_) (fun hc => ?_)) | refine c_block ?_ | refine c_skip ?_ | refine c_exit ?_ | refine c_ret ?_)
        | (refine e_g ?_; first | refine e_then ?_ | refine e_blkn ?_ | refine e_thenx ?_ | refine e_thenr ?_ | refine e_blkr ?_ | refine e_blkx ?_ | refine e_blky rfl ?_)
        | refine e_drop0 (e_drop0 (e_drop0 (e_round (k + 1, q, out, g, cap, cur, cq) (by simp; omega) ⟨by simp; omega, hsn, hq, hA⟩ ?_ rfl)))
        | refine e_drop0 (e_drop0 (e_drop0 (e_round (k + 1, putP q h.x h.y h.s false, out ++ [h], g, cap, cur, cs) (by simp; omega) ⟨by simp; omega, hsn, hp, ?_⟩ ?_ rfl))))
      all_goals first
        | ((repeat' (first | exact sub_nil | refine sub_cons rfl ?_ | refine sub_cons' rfl (by simp) ?_)); done)
        | (rw [flH_snoc]; simpa [Hd.cells] using hA)
  · have hkA : k = A.length := by omega
    subst hkA
    rw [List.take_length] at hst
    rw [hst]
    repeat' (first
      | (refine s_g ?_; first
      | (refine s_k 0 rfl ?_; refine s_val rfl rfl rfl (r_move rfl rfl) ?_)
      | (refine s_k 23 rfl ?_; first | refine s_val rfl rfl rfl (r_field tb rfl rfl rfl) ?_ | refine s_val rfl rfl rfl (r_fieldS tb rfl rfl rfl) ?_)
      | (refine s_k 8 rfl ?_; first | (refine' s_val rfl rfl rfl (r_ldv rfl rfl ?qm ?qv) ?_; (case qm => (exact zMm)); (case qv => (exact zLe))) | (refine' s_val rfl rfl rfl (r_ldo rfl rfl ?qw (by simp) ?qv) ?_; (case qw => assumption); (case qv => (exact zLe))))
      | (refine s_k 1 rfl ?_; refine s_val rfl rfl rfl (r_assign rfl rfl) ?_)
      | (refine s_k 13 rfl ?_; first | refine s_val rfl rfl rfl (r_lss rfl rfl rfl) ?_ | refine s_val rfl rfl rfl (r_add rfl rfl rfl (wrap_in (by simp only [lo, hi]; omega))) ?_)
      | (refine s_k 14 rfl ?_; refine s_val rfl rfl rfl (r_not rfl rfl) ?_)
      | (refine s_k 25 rfl ?_; first | refine s_val rfl rfl rfl (r_ixN tb rfl rfl rfl rfl (by omega)) ?_ | refine s_val rfl rfl rfl (r_ixA tb rfl rfl rfl rfl (by omega) (by omega)) ?_ | refine s_val rfl rfl rfl (r_ixO tb rfl rfl rfl rfl (by omega)) ?_)
      | (refine s_k 4 rfl ?_; first | refine s_boxA rfl rfl rfl rfl rfl fun blk => ?_ | refine s_box1 rfl rfl rfl rfl rfl rfl fun blk => ?_)
      | (refine s_k 9 rfl ?_; (first | refine s_st1 tb rfl rfl rfl rfl rfl rfl rfl rfl ?_ | refine s_stA tb rfl rfl rfl rfl (by first | rfl | assumption | (apply Pv.size; assumption)) rfl rfl ?_); (first | refine' st0 ?qs ?_ | refine' st1 ?qs ?_ | refine' st2 ?qs ?_ | refine' st3 ?qs ?_ | refine' st4 ?qs ?_ | refine' st5 ?qs ?_ | refine' st6 ?qs ?_ | refine' st7 ?qs ?_ | refine' st8 ?qs ?_ | refine' st9 ?qs ?_ | refine' st10 ?qs ?_ | refine' st11 ?qs ?_); (case qs => (first | exact zSet)))
      | (refine s_k 36 rfl ?_; refine s_val rfl rfl rfl (r_len tb rfl rfl rfl) ?_)
      | refine s_nil ?_)
      | (refine c_g ?_; first | refine c_seq ?_ | refine c_region ?_ | (refine c_gc ?_; first | refine c_cond1 rfl zTr ?_ | refine c_cond0 rfl zTr ?_ | refine z_condd1 rfl ?_ | refine z_condd0 rfl ?_ | refine z_conddn1 rfl ?_ | refine z_conddn0 rfl ?_ | refine c_condd rfl (fun hc => ?_) (fun hc => ?_) | refine c_conddn rfl (fun hc => ?_) (fun hc => ?_) | refine c_condn rfl (fun hc => ?_) (fun hc => ?_) | refine c_cond rfl (fun hc => ?_) (fun hc => ?_)) | refine c_block ?_ | refine c_skip ?_ | refine c_exit ?_ | refine c_ret ?_)
      | (refine e_g ?_; first | refine e_then ?_ | refine e_blkn ?_ | refine e_thenx ?_ | refine e_thenr ?_ | refine e_blkr ?_ | refine e_blkx ?_ | refine e_blky rfl ?_)
      | (refine e_ret2 (by simp) rfl (re_tmp rfl) (re_tmp rfl) fun w hL => NewS2.of hA hL m1))
set_option maxRecDepth 100000 in
theorem implJoin_no (p : Nat → Int) (cs : Array Value) (w : World) (hp : Pv p cs) (hv : validP p = false) :
    Calls Try.prog 48 #[.agg cs] w fun e w' => e = .returned (.tuple #[.slice none 0 0, .int .i64 1]) ∧ Below w.heap.size w w' := by
  have hsz := hp.size
  have hva := fun w => implValidPasture_any p cs w hp
  refine enter1 Try.func48 rfl rfl rfl (Own.start w) ?_
  repeat' (first
    | (refine s_g ?_; first
      | (refine s_k 0 rfl ?_; refine s_val rfl rfl rfl (r_move rfl rfl) ?_)
      | (refine s_k 23 rfl ?_; first | refine s_val rfl rfl rfl (r_field tb rfl rfl rfl) ?_ | refine s_val rfl rfl rfl (r_fieldS tb rfl rfl rfl) ?_)
      | (refine s_k 8 rfl ?_; first | (refine' s_val rfl rfl rfl (r_ldv rfl rfl ?qm ?qv) ?_; (case qm => (exact zMm)); (case qv => (exact zLe))) | (refine' s_val rfl rfl rfl (r_ldo rfl rfl ?qw (by simp) ?qv) ?_; (case qw => assumption); (case qv => (exact zLe))))
      | (refine s_k 1 rfl ?_; refine s_val rfl rfl rfl (r_assign rfl rfl) ?_)
      | (refine s_k 13 rfl ?_; first | refine s_val rfl rfl rfl (r_lss rfl rfl rfl) ?_ | refine s_val rfl rfl rfl (r_add rfl rfl rfl (wrap_in (by simp only [lo, hi]; omega))) ?_)
      | (refine s_k 35 rfl ?_; (refine s_call Try.func142 (by kernel_rfl) rfl rfl rfl rfl rfl rfl (fun w hL => (by have q := hva w; rw [hv] at q; exact q)) ?_))
      | (refine s_k 14 rfl ?_; refine s_val rfl rfl rfl (r_not rfl rfl) ?_)
      | (refine s_k 25 rfl ?_; first | refine s_val rfl rfl rfl (r_ixN tb rfl rfl rfl rfl (by omega)) ?_ | refine s_val rfl rfl rfl (r_ixA tb rfl rfl rfl rfl (by omega) (by omega)) ?_ | refine s_val rfl rfl rfl (r_ixO tb rfl rfl rfl rfl (by omega)) ?_)
      | (refine s_k 4 rfl ?_; first | refine s_boxA rfl rfl rfl rfl rfl fun blk => ?_ | refine s_box1 rfl rfl rfl rfl rfl rfl fun blk => ?_)
      | (refine s_k 9 rfl ?_; (first | refine s_st1 tb rfl rfl rfl rfl rfl rfl rfl rfl ?_ | refine s_stA tb rfl rfl rfl rfl (by first | rfl | assumption | (apply Pv.size; assumption)) rfl rfl ?_); (first | refine' st0 ?qs ?_ | refine' st1 ?qs ?_ | refine' st2 ?qs ?_ | refine' st3 ?qs ?_ | refine' st4 ?qs ?_ | refine' st5 ?qs ?_ | refine' st6 ?qs ?_ | refine' st7 ?qs ?_ | refine' st8 ?qs ?_ | refine' st9 ?qs ?_ | refine' st10 ?qs ?_ | refine' st11 ?qs ?_); (case qs => (first | exact zSet)))
      | (refine s_k 36 rfl ?_; refine s_val rfl rfl rfl (r_len tb rfl rfl rfl) ?_)
      | refine s_nil ?_)
    | (refine c_g ?_; first | refine c_seq ?_ | refine c_region ?_ | (refine c_gc ?_; first | refine c_cond1 rfl zTr ?_ | refine c_cond0 rfl zTr ?_ | refine z_condd1 rfl ?_ | refine z_condd0 rfl ?_ | refine z_conddn1 rfl ?_ | refine z_conddn0 rfl ?_ | refine c_condd rfl (fun hc => ?_) (fun hc => ?_) | refine c_conddn rfl (fun hc => ?_) (fun hc => ?_) | refine c_condn rfl (fun hc => ?_) (fun hc => ?_) | refine c_cond rfl (fun hc => ?_) (fun hc => ?_)) | refine c_block ?_ | refine c_skip ?_ | refine c_exit ?_ | refine c_ret ?_)
    | (refine e_g ?_; first | refine e_then ?_ | refine e_blkn ?_ | refine e_thenx ?_ | refine e_thenr ?_ | refine e_blkr ?_ | refine e_blkx ?_ | refine e_blky rfl ?_)
    | (refine e_ret2 (by simp) rfl (re_tmp rfl) (re_tmp rfl) fun w hL => ⟨rfl, hL.toBelow⟩))
set_option maxRecDepth 100000 in
theorem specJoin_no (p : Nat → Int) (cs : Array Value) (w : World) (hp : Pv p cs) (hv : validP p = false) :
    Calls Try.prog 47 #[.agg cs] w (NewS2 70 3 [] 1 w) := by
  have hsz := hp.size
  have hva := fun w T g hg => l01Ok_any p cs T g w hp hg
  refine enter1 Try.func47 rfl rfl rfl (Own.start w) ?_
  repeat' (first
    | (refine s_g ?_; first
      | (refine s_k 0 rfl ?_; refine s_val rfl rfl rfl (r_move rfl rfl) ?_)
      | (refine s_k 23 rfl ?_; first | refine s_val rfl rfl rfl (r_field tb rfl rfl rfl) ?_ | refine s_val rfl rfl rfl (r_fieldS tb rfl rfl rfl) ?_)
      | (refine s_k 8 rfl ?_; first | (refine' s_val rfl rfl rfl (r_ldv rfl rfl ?qm ?qv) ?_; (case qm => (exact zMm)); (case qv => (exact zLe))) | (refine' s_val rfl rfl rfl (r_ldo rfl rfl ?qw (by simp) ?qv) ?_; (case qw => assumption); (case qv => (exact zLe))))
      | (refine s_k 1 rfl ?_; refine s_val rfl rfl rfl (r_assign rfl rfl) ?_)
      | (refine s_k 13 rfl ?_; first | refine s_val rfl rfl rfl (r_lss rfl rfl rfl) ?_ | refine s_val rfl rfl rfl (r_eql rfl rfl rfl) ?_ | refine s_val rfl rfl rfl (r_add rfl rfl rfl (wrap_in (by simp only [lo, hi]; omega))) ?_)
      | (refine s_k 35 rfl ?_; (refine s_call Try.func137 (by kernel_rfl) rfl rfl rfl rfl rfl rfl (fun w hL => (by have q := hva w _ _ (hL.at_ m0); rw [hv] at q; exact q)) ?_))
      | (refine s_k 14 rfl ?_; refine s_val rfl rfl rfl (r_not rfl rfl) ?_)
      | (refine s_k 25 rfl ?_; first | refine s_val rfl rfl rfl (r_ixN tb rfl rfl rfl rfl (by omega)) ?_ | refine s_val rfl rfl rfl (r_ixA tb rfl rfl rfl rfl (by omega) (by omega)) ?_ | refine s_val rfl rfl rfl (r_ixO tb rfl rfl rfl rfl (by omega)) ?_)
      | (refine s_k 4 rfl ?_; first | refine s_boxA rfl rfl rfl rfl rfl fun blk => ?_ | refine s_box1 rfl rfl rfl rfl rfl rfl fun blk => ?_)
      | (refine s_k 9 rfl ?_; (first | refine s_st1 tb rfl rfl rfl rfl rfl rfl rfl rfl ?_ | refine s_stA tb rfl rfl rfl rfl (by first | rfl | assumption | (apply Pv.size; assumption)) rfl rfl ?_); (first | refine' st0 ?qs ?_ | refine' st1 ?qs ?_ | refine' st2 ?qs ?_ | refine' st3 ?qs ?_ | refine' st4 ?qs ?_ | refine' st5 ?qs ?_ | refine' st6 ?qs ?_ | refine' st7 ?qs ?_ | refine' st8 ?qs ?_ | refine' st9 ?qs ?_ | refine' st10 ?qs ?_ | refine' st11 ?qs ?_); (case qs => (first | exact zSet)))
      | (refine s_k 36 rfl ?_; refine s_val rfl rfl rfl (r_len tb rfl rfl rfl) ?_)
      | (refine s_k 6 rfl ?_; refine s_bsl rfl rfl (fun w => slHurdle0 w) rfl rfl rfl fun blk => ?_)
      | refine s_nil ?_)
    | (refine c_g ?_; first | refine c_seq ?_ | refine c_region ?_ | (refine c_gc ?_; first | refine c_cond1 rfl zTr ?_ | refine c_cond0 rfl zTr ?_ | refine z_condd1 rfl ?_ | refine z_condd0 rfl ?_ | refine z_conddn1 rfl ?_ | refine z_conddn0 rfl ?_ | refine c_condd rfl (fun hc => ?_) (fun hc => ?_) | refine c_conddn rfl (fun hc => ?_) (fun hc => ?_) | refine c_condn rfl (fun hc => ?_) (fun hc => ?_) | refine c_cond rfl (fun hc => ?_) (fun hc => ?_)) | refine c_block ?_ | refine c_skip ?_ | refine c_exit ?_ | refine c_ret ?_)
    | (refine e_g ?_; first | refine e_then ?_ | refine e_blkn ?_ | refine e_thenx ?_ | refine e_thenr ?_ | refine e_blkr ?_ | refine e_blkx ?_ | refine e_blky rfl ?_)
    | (refine e_ret2 (by simp) rfl (re_tmp rfl) (re_tmp rfl) fun w hL => NewS2.of (Ap.nil 3) hL m0))
set_option maxRecDepth 100000 in
set_option maxHeartbeats 1600000 in
theorem specJoin_ok (p : Nat → Int) (cs : Array Value) (w : World) (hp : Pv p cs) (hv : validP p = true) :
    Calls Try.prog 47 #[.agg cs] w (NewS2 70 3 (flH (joinL p)) 0 w) := by
  have hsz := hp.size
  have hle := hursL_len hv
  have hva := fun w T g hg => l01Ok_any p cs T g w hp hg
  have hv10 := valid_le hv
  have hin : ∀ h ∈ hursL p, isH p h = true := fun h hm => hursL_isH hm
  have hhur := fun w T g hg => l03Standing_any p cs T g w hp hg hv
  unfold joinL
  generalize hursL p = A at *
  refine enter1 Try.func47 rfl rfl rfl (Own.start w) ?_
  repeat' (first
    | (refine s_g ?_; first
      | (refine s_k 0 rfl ?_; refine s_val rfl rfl rfl (r_move rfl rfl) ?_)
      | (refine s_k 23 rfl ?_; first | refine s_val rfl rfl rfl (r_field tb rfl rfl rfl) ?_ | refine s_val rfl rfl rfl (r_fieldS tb rfl rfl rfl) ?_)
      | (refine s_k 8 rfl ?_; first | (refine' s_val rfl rfl rfl (r_ldv rfl rfl ?qm ?qv) ?_; (case qm => (exact zMm)); (case qv => (exact zLe))) | (refine' s_val rfl rfl rfl (r_ldo rfl rfl ?qw (by simp) ?qv) ?_; (case qw => assumption); (case qv => (exact zLe))))
      | (refine s_k 1 rfl ?_; refine s_val rfl rfl rfl (r_assign rfl rfl) ?_)
      | (refine s_k 13 rfl ?_; first | refine s_val rfl rfl rfl (r_lss rfl rfl rfl) ?_ | refine s_val rfl rfl rfl (r_eql rfl rfl rfl) ?_ | refine s_val rfl rfl rfl (r_add rfl rfl rfl (wrap_in (by simp only [lo, hi]; omega))) ?_)
      | (refine s_k 35 rfl ?_; first | (refine s_call Try.func137 (by kernel_rfl) rfl rfl rfl rfl rfl rfl (fun w hL => (by have q := hva w _ _ (hL.at_ m0); rw [hv] at q; exact q)) ?_) | (refine s_callN Try.func138 (by kernel_rfl) rfl rfl rfl rfl rfl rfl (fun w hL => hhur w _ _ (hL.at_ m1)) fun ga ka capa cura hAa => ?_))
      | (refine s_k 14 rfl ?_; refine s_val rfl rfl rfl (r_not rfl rfl) ?_)
      | (refine s_k 25 rfl ?_; first | refine s_val rfl rfl rfl (r_ixN tb rfl rfl rfl rfl (by omega)) ?_ | refine s_val rfl rfl rfl (r_ixA tb rfl rfl rfl rfl (by omega) (by omega)) ?_ | refine s_val rfl rfl rfl (r_ixO tb rfl rfl rfl rfl (by omega)) ?_)
      | (refine s_k 4 rfl ?_; first | refine s_boxA rfl rfl rfl rfl rfl fun blk => ?_ | refine s_box1 rfl rfl rfl rfl rfl rfl fun blk => ?_)
      | (refine s_k 9 rfl ?_; (first | refine s_st1 tb rfl rfl rfl rfl rfl rfl rfl rfl ?_ | refine s_stA tb rfl rfl rfl rfl (by first | rfl | assumption | (apply Pv.size; assumption)) rfl rfl ?_); (first | refine' st0 ?qs ?_ | refine' st1 ?qs ?_ | refine' st2 ?qs ?_ | refine' st3 ?qs ?_ | refine' st4 ?qs ?_ | refine' st5 ?qs ?_ | refine' st6 ?qs ?_ | refine' st7 ?qs ?_ | refine' st8 ?qs ?_ | refine' st9 ?qs ?_ | refine' st10 ?qs ?_ | refine' st11 ?qs ?_); (case qs => (first | exact zSet)))
      | (refine s_k 36 rfl ?_; refine s_val rfl rfl rfl (r_len tb rfl rfl rfl) ?_)
      | (refine s_k 6 rfl ?_; refine s_bsl rfl rfl (fun w => slHurdle0 w) rfl rfl rfl fun blk => ?_)
      | refine s_nil ?_)
    | (refine c_g ?_; first | refine c_seq ?_ | refine c_region ?_ | (refine c_gc ?_; first | refine c_cond1 rfl zTr ?_ | refine c_cond0 rfl zTr ?_ | refine z_condd1 rfl ?_ | refine z_condd0 rfl ?_ | refine z_conddn1 rfl ?_ | refine z_conddn0 rfl ?_ | refine c_condd rfl (fun hc => ?_) (fun hc => ?_) | refine c_conddn rfl (fun hc => ?_) (fun hc => ?_) | refine c_condn rfl (fun hc => ?_) (fun hc => ?_) | refine c_cond rfl (fun hc => ?_) (fun hc => ?_)) | refine c_block ?_ | refine c_skip ?_ | refine c_exit ?_ | refine c_ret ?_)
    | (refine e_g ?_; first | refine e_then ?_ | refine e_blkn ?_ | refine e_thenx ?_ | refine e_thenr ?_ | refine e_blkr ?_ | refine e_blkx ?_ | refine e_blky rfl ?_))
  rename_i b1
  obtain rfl : ka = A.length := by simpa using hAa.count (lenHd A) (by omega)
  refine c_loop (ι := Nat × (Nat → Int) × List Hd × Nat × Nat × Array Value × Array Value) (fun i => A.length - i.1) (fun i => i.1 ≤ A.length ∧ jnV p (A.take i.1) = (i.2.1, i.2.2.1) ∧ Pv i.2.1 i.2.2.2.2.2.2 ∧ Ap 3 i.2.2.1.length i.2.2.2.2.1 i.2.2.2.2.2.1 (flH i.2.2.1)) (fun i => [(6, .int .i64 (i.1 : Int)), (5, .slice (some ⟨ga, 0, none⟩) A.length capa), (4, .slice (some ⟨i.2.2.2.1, 0, none⟩) i.2.2.1.length i.2.2.2.2.1), (1, .pointer (some ⟨b1, 0, none⟩))]) (fun i => [(ga, 70, cura), (i.2.2.2.1, 70, i.2.2.2.2.2.1), (b1, 34, i.2.2.2.2.2.2)]) (0, p, [], blk, 0, #[], cs) ⟨by simp, by simp [jnV], hp, by simpa [flH] using Ap.nil 3⟩ ?hs rfl ?_
  case hs => (repeat' (first | exact sub_nil | refine sub_cons rfl ?_))
  rintro ⟨k, q, out, g, cap, cur, cq⟩ ⟨hk, hst, hq, hA⟩
  simp only at hk hst hq hA ⊢
  by_cases hlt : k < A.length
  · have hx : A[k]? = some A[k] := List.getElem?_eq_getElem hlt
    have hh := hin A[k] (List.getElem_mem hlt)
    have hsn := jnV_snoc p A hx
    have hol : out.length ≤ 200 := by have := jnV_len p (A.take k); rw [hst] at this; simp at this; omega
    have hq0 : q 0 = p 0 := by have := jnV_keep p (A.take k) (i := 0) (by omega); rw [hst] at this; exact this
    have hq1 : q 1 = p 1 := by have := jnV_keep p (A.take k) (i := 1) (by omega); rw [hst] at this; exact this
    rw [hst] at hsn
    generalize A[k] = h at *
    have hsp := hAa.hd hx
    obtain ⟨hr, hro⟩ := isH_facts hh
    have hD := strD_val q (o := ⟨h.x, h.y⟩) hr
    have hT := giA_ok .i64 0 (strD q ⟨h.x, h.y⟩)
    have hTs := hT.size
    have hqsz := hq.size
    have hDo := hD (ci (othS h))
    have hld : (giA .i64 0 (strD q ⟨h.x, h.y⟩))[0 + (othS h).y.toNat * 10 + (othS h).x.toNat * 1]? = some (.int .i64 (strD q ⟨h.x, h.y⟩ (ci (othS h)) - 0)) := hT.at_ ⟨hro.1, hro.2.1⟩ hro.2.2
    have hrn : (0 ≤ (othS h).x ∧ (othS h).x < 10) ∧ 0 ≤ (othS h).y ∧ (othS h).y < 10 := ⟨⟨hro.1, hro.2.1⟩, hro.2.2⟩
    have hside := fun w => l03Side_any h.x h.y h.s w
    have hsd : 0 ≤ sdOf h.s ∧ sdOf h.s ≤ 3 := by unfold sdOf; split <;> omega
    have hnx : ∀ w, Calls Try.prog 139 #[.agg #[.int .i8 h.x, .int .i8 h.y], .int .i64 (sdOf h.s)] w fun e w' => e = .returned (.agg #[.int .i8 (othS h).x, .int .i8 (othS h).y]) ∧ Below w.heap.size w w' := fun w => l01Next_any h.x h.y (sdOf h.s) w (by have := hr; unfold inR at this; simp only at this; omega) (by have := hr; unfold inR at this; simp only at this; omega)
    have hstp := fun w T g hg => l01Steps_any q cq T g ⟨h.x, h.y⟩ w hq hg (by omega) (by omega) hr
    obtain ⟨s1, s2, s3⟩ := hd_self h.x h.y h.s
    have hset := fun (w : World) (b : Nat) hg => l01Set_any q cq b h.x h.y (sdOf h.s) false w hq hg ⟨hr.1, hr.2.1⟩ hr.2.2 hsd (by rw [s1, s2]; exact ⟨⟨hr.1, hr.2.1⟩, hr.2.2⟩)
    simp only [s1, s2, s3] at hset
    have hjY : strD q ⟨h.x, h.y⟩ (ci (othS h)) = 0 → jnStep (q, out) h = (putP q h.x h.y h.s false, out ++ [h]) := fun hz => by unfold jnStep apartB; simp only [hz, decide_true, if_true]
    have hjN : ¬ strD q ⟨h.x, h.y⟩ (ci (othS h)) = 0 → jnStep (q, out) h = (q, out) := fun hz => by unfold jnStep apartB; simp only [hz, decide_false, if_false, Bool.false_eq_true]
    generalize othS h = o at *
    by_cases hz : strD q ⟨h.x, h.y⟩ (ci o) = 0
    case' pos => have hj := hjY hz
    case' neg => have hj := hjN hz
    all_goals
      rw [hj] at hsn
      repeat' (first
        | (refine s_g ?_; first
      | (refine s_k 0 rfl ?_; refine s_val rfl rfl rfl (r_move rfl rfl) ?_)
      | (refine s_k 23 rfl ?_; first | refine s_val rfl rfl rfl (r_field tb rfl rfl rfl) ?_ | refine s_val rfl rfl rfl (r_fieldS tb rfl rfl rfl) ?_)
      | (refine s_k 8 rfl ?_; first | refine s_val rfl rfl rfl (r_ldN tb rfl rfl m0 rfl hsp.2.1 hsp.2.2) ?_ | refine s_val rfl rfl rfl (r_ldN tb rfl rfl m0 rfl hsp.1.1 hsp.1.2) ?_ | refine s_val rfl rfl rfl (r_ldN tb rfl rfl m1 rfl hsp.2.1 hsp.2.2) ?_ | refine s_val rfl rfl rfl (r_ldN tb rfl rfl m1 rfl hsp.1.1 hsp.1.2) ?_ | refine s_val rfl rfl rfl (r_ldN tb rfl rfl m2 rfl hsp.2.1 hsp.2.2) ?_ | refine s_val rfl rfl rfl (r_ldN tb rfl rfl m2 rfl hsp.1.1 hsp.1.2) ?_ | (refine' s_val rfl rfl rfl (r_ldv rfl rfl ?qm ?qv) ?_; (case qm => (exact zMm)); (case qv => (first | exact ldvL tb rfl rfl | exact ldv1 tb rfl (by assumption) | exact ldv1 tb rfl (hld) | exact zLd))) | (refine' s_val rfl rfl rfl (r_ldo rfl rfl ?qw (by simp) ?qv) ?_; (case qw => assumption); (case qv => (first | exact ldvL tb rfl rfl | exact ldv1 tb rfl (by assumption) | exact ldv1 tb rfl (hld) | exact zLd))))
      | (refine s_k 1 rfl ?_; refine s_val rfl rfl rfl (r_assign rfl rfl) ?_)
      | (refine s_k 13 rfl ?_; first | refine s_val rfl rfl rfl (r_lss rfl rfl rfl) ?_ | refine s_val rfl rfl rfl (r_eql rfl rfl rfl) ?_ | refine s_val rfl rfl rfl (r_add rfl rfl rfl (wrap_in (by simp only [lo, hi]; omega))) ?_)
      | (refine s_k 35 rfl ?_; first | (refine s_call Try.func140 (by kernel_rfl) rfl rfl rfl rfl rfl rfl (fun w hL => hside w) ?_) | (refine s_call Try.func139 (by kernel_rfl) rfl rfl rfl rfl rfl rfl (fun w hL => hnx w) ?_) | (refine s_call Try.func108 (by kernel_rfl) rfl rfl rfl rfl rfl rfl (fun w hL => hstp w _ _ (hL.at_ m2)) ?_) | (refine s_callM4 Try.func141 (by kernel_rfl) rfl rfl rfl rfl rfl rfl (fun w hL hg => hset w _ hg) fun cs hp => ?_))
      | (refine s_k 14 rfl ?_; refine s_val rfl rfl rfl (r_not rfl rfl) ?_)
      | (refine s_k 25 rfl ?_; first | refine s_val rfl rfl rfl (r_ixO tb rfl rfl rfl rfl hlt) ?_ | refine s_val rfl rfl rfl (r_ixN tb rfl rfl rfl rfl (by omega)) ?_ | refine s_val rfl rfl rfl (r_ixA tb rfl rfl rfl rfl (by omega) (by omega)) ?_ | refine s_val rfl rfl rfl (r_ixO tb rfl rfl rfl rfl (by omega)) ?_)
      | (refine s_k 4 rfl ?_; first | refine s_boxA rfl rfl rfl rfl rfl fun blk => ?_ | refine s_box1 rfl rfl rfl rfl rfl rfl fun blk => ?_)
      | (refine s_k 9 rfl ?_; (first | refine s_st1 tb rfl rfl rfl rfl rfl rfl rfl rfl ?_ | refine s_stA tb rfl rfl rfl rfl (by first | rfl | assumption | (apply Pv.size; assumption)) rfl rfl ?_); (first | refine' st0 ?qs ?_ | refine' st1 ?qs ?_ | refine' st2 ?qs ?_ | refine' st3 ?qs ?_ | refine' st4 ?qs ?_ | refine' st5 ?qs ?_ | refine' st6 ?qs ?_ | refine' st7 ?qs ?_ | refine' st8 ?qs ?_ | refine' st9 ?qs ?_ | refine' st10 ?qs ?_ | refine' st11 ?qs ?_); (case qs => (first | exact set_whole (vs := o.cells.toArray) rfl (by simp [Sp.cells, Value.oneCell']) | exact setG (giA_ok _ _ _) zS64_ok.size | exact zSet)))
      | (refine s_k 3 rfl ?_; first | refine s_allocA (t := 134) rfl z1010 rfl rfl rfl fun blk => ?_ | refine s_allocA (t := 49) rfl zImplSpot rfl rfl rfl fun blk => ?_)
      | (refine s_k 36 rfl ?_; first | refine s_app3 hA rfl rfl rfl uHurdleS iHurdle rfl (by omega) (by simp) (by simp) rfl (by simp [Value.oneCell']) (by unfold maxLen; omega) (by omega) rfl rfl rfl fun g cap cur hA => ?_ | refine s_val rfl rfl rfl (r_len tb rfl rfl rfl) ?_)
      | (refine s_k 6 rfl ?_; refine s_bsl rfl rfl (fun w => slHurdle1 _ _ _ w) rfl rfl rfl fun blk => ?_)
      | refine s_nil ?_)
        | (refine c_g ?_; first | refine c_seq ?_ | refine c_region ?_ | (refine c_gc ?_; first | refine c_cond1 rfl zTr ?_ | refine c_cond0 rfl zTr ?_ | refine z_condd1 rfl ?_ | refine z_condd0 rfl ?_ | refine z_conddn1 rfl ?_ | refine z_conddn0 rfl ?_ | refine c_condd rfl (fun hc => ?_) (fun hc => ?_) | refine c_conddn rfl (fun hc => ?_) (fun hc => ?_) | refine c_condn rfl (fun hc => ?_) (fun hc => ?_) | refine c_cond rfl (fun hc => ?_) (fun hc => ?_)) | refine c_block ?_ | refine c_skip ?_ | refine c_exit ?_ | refine c_ret ?_)
        | (refine e_g ?_; first | refine e_then ?_ | refine e_blkn ?_ | refine e_thenx ?_ | refine e_thenr ?_ | refine e_blkr ?_ | refine e_blkx ?_ | refine e_blky rfl ?_)
        | (refine x_g ?_; first
      | (refine x_k 0 rfl ?_; (refine x_val rfl rfl rfl (r_move rfl rfl) ?hp ?_; (case hp => exact rfl)))
      | (refine x_k 23 rfl ?_; first | (refine x_val rfl rfl rfl (r_field tb rfl rfl rfl) ?hp ?_; (case hp => exact rfl)) | (refine x_val rfl rfl rfl (r_fieldS tb rfl rfl rfl) ?hp ?_; (case hp => exact rfl)))
      | (refine x_k 8 rfl ?_; first | (refine x_val rfl rfl rfl (r_ldN tb rfl rfl m0 rfl hsp.2.1 hsp.2.2) ?hp ?_; (case hp => exact rfl)) | (refine x_val rfl rfl rfl (r_ldN tb rfl rfl m0 rfl hsp.1.1 hsp.1.2) ?hp ?_; (case hp => exact rfl)) | (refine x_val rfl rfl rfl (r_ldN tb rfl rfl m1 rfl hsp.2.1 hsp.2.2) ?hp ?_; (case hp => exact rfl)) | (refine x_val rfl rfl rfl (r_ldN tb rfl rfl m1 rfl hsp.1.1 hsp.1.2) ?hp ?_; (case hp => exact rfl)) | (refine x_val rfl rfl rfl (r_ldN tb rfl rfl m2 rfl hsp.2.1 hsp.2.2) ?hp ?_; (case hp => exact rfl)) | (refine x_val rfl rfl rfl (r_ldN tb rfl rfl m2 rfl hsp.1.1 hsp.1.2) ?hp ?_; (case hp => exact rfl)) | (refine' x_val rfl rfl rfl (r_ldv rfl rfl ?qm ?qv) ?hp ?_; (case qm => (exact zMm)); (case qv => (first | exact ldvL tb rfl rfl | exact ldv1 tb rfl (by assumption) | exact ldv1 tb rfl (hld) | exact zLd)); (case hp => exact rfl)) | (refine' x_val rfl rfl rfl (r_ldo rfl rfl ?qw (by simp) ?qv) ?hp ?_; (case qw => assumption); (case qv => (first | exact ldvL tb rfl rfl | exact ldv1 tb rfl (by assumption) | exact ldv1 tb rfl (hld) | exact zLd)); (case hp => exact rfl)))
      | (refine x_k 1 rfl ?_; (refine x_val rfl rfl rfl (r_assign rfl rfl) ?hp ?_; (case hp => exact rfl)))
      | (refine x_k 13 rfl ?_; first | (refine x_val rfl rfl rfl (r_lss rfl rfl rfl) ?hp ?_; (case hp => exact rfl)) | (refine x_val rfl rfl rfl (r_eql rfl rfl rfl) ?hp ?_; (case hp => exact rfl)) | (refine x_val rfl rfl rfl (r_add rfl rfl rfl (wrap_in (by simp only [lo, hi]; omega))) ?hp ?_; (case hp => exact rfl)))
      | (refine x_k 35 rfl ?_; first | (refine x_call Try.func140 (by kernel_rfl) rfl rfl rfl rfl rfl rfl (fun w hL => hside w) ?hp ?_; (case hp => exact rfl)) | (refine x_call Try.func139 (by kernel_rfl) rfl rfl rfl rfl rfl rfl (fun w hL => hnx w) ?hp ?_; (case hp => exact rfl)) | (refine x_call Try.func108 (by kernel_rfl) rfl rfl rfl rfl rfl rfl (fun w hL => hstp w _ _ (hL.at_ m2)) ?hp ?_; (case hp => exact rfl)))
      | (refine x_k 14 rfl ?_; (refine x_val rfl rfl rfl (r_not rfl rfl) ?hp ?_; (case hp => exact rfl)))
      | (refine x_k 25 rfl ?_; first | (refine x_val rfl rfl rfl (r_ixO tb rfl rfl rfl rfl hlt) ?hp ?_; (case hp => exact rfl)) | (refine x_val rfl rfl rfl (r_ixN tb rfl rfl rfl rfl (by omega)) ?hp ?_; (case hp => exact rfl)) | (refine x_val rfl rfl rfl (r_ixA tb rfl rfl rfl rfl (by omega) (by omega)) ?hp ?_; (case hp => exact rfl)) | (refine x_val rfl rfl rfl (r_ixO tb rfl rfl rfl rfl (by omega)) ?hp ?_; (case hp => exact rfl)))
      | (refine x_k 4 rfl ?_; (refine x_boxA rfl rfl rfl rfl rfl ?hp (fun blk => ?_); (case hp => exact rfl)))
      | (refine x_k 9 rfl ?_; first | (refine' x_putA0 tb rfl rfl rfl rfl (by first | rfl | assumption | (apply Pv.size; assumption)) ?qs (by first | rfl | assumption | (apply Pv.size; assumption)) rfl rfl ?hp ?_; (case qs => (first | exact set_whole (vs := o.cells.toArray) rfl (by simp [Sp.cells, Value.oneCell']) | exact setG (giA_ok _ _ _) zS64_ok.size | exact zSet)); (case hp => exact rfl)) | (refine' x_putA1 tb rfl rfl rfl rfl (by first | rfl | assumption | (apply Pv.size; assumption)) ?qs (by first | rfl | assumption | (apply Pv.size; assumption)) rfl rfl ?hp ?_; (case qs => (first | exact set_whole (vs := o.cells.toArray) rfl (by simp [Sp.cells, Value.oneCell']) | exact setG (giA_ok _ _ _) zS64_ok.size | exact zSet)); (case hp => exact rfl)) | (refine' x_putA2 tb rfl rfl rfl rfl (by first | rfl | assumption | (apply Pv.size; assumption)) ?qs (by first | rfl | assumption | (apply Pv.size; assumption)) rfl rfl ?hp ?_; (case qs => (first | exact set_whole (vs := o.cells.toArray) rfl (by simp [Sp.cells, Value.oneCell']) | exact setG (giA_ok _ _ _) zS64_ok.size | exact zSet)); (case hp => exact rfl)))
      | (refine x_k 3 rfl ?_; first | (refine x_allocA (t := 134) rfl z1010 rfl rfl rfl ?hp (fun blk => ?_); (case hp => exact rfl)) | (refine x_allocA (t := 49) rfl zImplSpot rfl rfl rfl ?hp (fun blk => ?_); (case hp => exact rfl)))
      | (refine x_k 36 rfl ?_; (refine x_val rfl rfl rfl (r_len tb rfl rfl rfl) ?hp ?_; (case hp => exact rfl)))
      | refine x_nil0 ?_
      | refine x_nil ?_)
        | (refine' c_drawX (id := 9) [(Sum.inl _ : Calm.Plan), (Sum.inl _ : Calm.Plan), (Sum.inl _ : Calm.Plan), (Sum.inl _ : Calm.Plan), (Sum.inl _ : Calm.Plan), (Sum.inl _ : Calm.Plan), (Sum.inl _ : Calm.Plan), (Sum.inl _ : Calm.Plan), (Sum.inl _ : Calm.Plan), (Sum.inl _ : Calm.Plan), (Sum.inl _ : Calm.Plan), (Sum.inr (false, _, _) : Calm.Plan), (Sum.inr (true, _, _) : Calm.Plan)] (by kernel_rfl) (by kernel_rfl) (by kernel_rfl) ?_)
        | (refine' c_drawX (id := 10) [(Sum.inl _ : Calm.Plan), (Sum.inl _ : Calm.Plan), (Sum.inl _ : Calm.Plan), (Sum.inl _ : Calm.Plan), (Sum.inl _ : Calm.Plan), (Sum.inl _ : Calm.Plan), (Sum.inl _ : Calm.Plan), (Sum.inl _ : Calm.Plan)] (by kernel_rfl) (by kernel_rfl) (by kernel_rfl) ?_)
        | (refine' c_drawXT (id := 12) 10 [(Sum.inl _ : Calm.Plan), (Sum.inl _ : Calm.Plan), (Sum.inl _ : Calm.Plan), (Sum.inl _ : Calm.Plan), (Sum.inl _ : Calm.Plan), (Sum.inl _ : Calm.Plan), (Sum.inl _ : Calm.Plan), (Sum.inl _ : Calm.Plan), (Sum.inl _ : Calm.Plan), (Sum.inl _ : Calm.Plan)] (by kernel_rfl) (by kernel_rfl) (by kernel_rfl) ?_)
        | refine e_tail ?_
        | refine e_drop0 (e_drop0 (e_round (k + 1, q, out, g, cap, cur, cq) (by simp; omega) ⟨by simp; omega, hsn, hq, hA⟩ ?_ rfl))
        | refine e_drop0 (e_drop0 (e_round (k + 1, putP q h.x h.y h.s false, out ++ [h], g, cap, cur, cs) (by simp; omega) ⟨by simp; omega, hsn, hp, ?_⟩ ?_ rfl)))
      all_goals first
        | ((repeat' (first | exact sub_nil | refine sub_cons rfl ?_ | refine sub_cons' rfl (by simp) ?_)); done)
        | (rw [flH_snoc]; simpa [Hd.cells] using hA)
  · have hkA : k = A.length := by omega
    subst hkA
    rw [List.take_length] at hst
    rw [hst]
    repeat' (first
      | (refine s_g ?_; first
      | (refine s_k 0 rfl ?_; refine s_val rfl rfl rfl (r_move rfl rfl) ?_)
      | (refine s_k 23 rfl ?_; first | refine s_val rfl rfl rfl (r_field tb rfl rfl rfl) ?_ | refine s_val rfl rfl rfl (r_fieldS tb rfl rfl rfl) ?_)
      | (refine s_k 8 rfl ?_; first | (refine' s_val rfl rfl rfl (r_ldv rfl rfl ?qm ?qv) ?_; (case qm => (exact zMm)); (case qv => (exact zLe))) | (refine' s_val rfl rfl rfl (r_ldo rfl rfl ?qw (by simp) ?qv) ?_; (case qw => assumption); (case qv => (exact zLe))))
      | (refine s_k 1 rfl ?_; refine s_val rfl rfl rfl (r_assign rfl rfl) ?_)
      | (refine s_k 13 rfl ?_; first | refine s_val rfl rfl rfl (r_lss rfl rfl rfl) ?_ | refine s_val rfl rfl rfl (r_eql rfl rfl rfl) ?_ | refine s_val rfl rfl rfl (r_add rfl rfl rfl (wrap_in (by simp only [lo, hi]; omega))) ?_)
      | (refine s_k 14 rfl ?_; refine s_val rfl rfl rfl (r_not rfl rfl) ?_)
      | (refine s_k 25 rfl ?_; first | refine s_val rfl rfl rfl (r_ixN tb rfl rfl rfl rfl (by omega)) ?_ | refine s_val rfl rfl rfl (r_ixA tb rfl rfl rfl rfl (by omega) (by omega)) ?_ | refine s_val rfl rfl rfl (r_ixO tb rfl rfl rfl rfl (by omega)) ?_)
      | (refine s_k 4 rfl ?_; first | refine s_boxA rfl rfl rfl rfl rfl fun blk => ?_ | refine s_box1 rfl rfl rfl rfl rfl rfl fun blk => ?_)
      | (refine s_k 9 rfl ?_; (first | refine s_st1 tb rfl rfl rfl rfl rfl rfl rfl rfl ?_ | refine s_stA tb rfl rfl rfl rfl (by first | rfl | assumption | (apply Pv.size; assumption)) rfl rfl ?_); (first | refine' st0 ?qs ?_ | refine' st1 ?qs ?_ | refine' st2 ?qs ?_ | refine' st3 ?qs ?_ | refine' st4 ?qs ?_ | refine' st5 ?qs ?_ | refine' st6 ?qs ?_ | refine' st7 ?qs ?_ | refine' st8 ?qs ?_ | refine' st9 ?qs ?_ | refine' st10 ?qs ?_ | refine' st11 ?qs ?_); (case qs => (first | exact zSet)))
      | (refine s_k 36 rfl ?_; refine s_val rfl rfl rfl (r_len tb rfl rfl rfl) ?_)
      | refine s_nil ?_)
      | (refine c_g ?_; first | refine c_seq ?_ | refine c_region ?_ | (refine c_gc ?_; first | refine c_cond1 rfl zTr ?_ | refine c_cond0 rfl zTr ?_ | refine z_condd1 rfl ?_ | refine z_condd0 rfl ?_ | refine z_conddn1 rfl ?_ | refine z_conddn0 rfl ?_ | refine c_condd rfl (fun hc => ?_) (fun hc => ?_) | refine c_conddn rfl (fun hc => ?_) (fun hc => ?_) | refine c_condn rfl (fun hc => ?_) (fun hc => ?_) | refine c_cond rfl (fun hc => ?_) (fun hc => ?_)) | refine c_block ?_ | refine c_skip ?_ | refine c_exit ?_ | refine c_ret ?_)
      | (refine e_g ?_; first | refine e_then ?_ | refine e_blkn ?_ | refine e_thenx ?_ | refine e_thenr ?_ | refine e_blkr ?_ | refine e_blkx ?_ | refine e_blky rfl ?_)
      | (refine e_ret2 (by simp) rfl (re_tmp rfl) (re_tmp rfl) fun w hL => NewS2.of hA hL m1))
end Go.Proofs.YtdnndidihedndaaRR
