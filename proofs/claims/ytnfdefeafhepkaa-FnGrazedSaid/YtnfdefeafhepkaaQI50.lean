import Derived.Test.YtnfdefeafhepkaaQI47
set_option linter.unusedVariables false
set_option linter.unusedSimpArgs false
namespace Go.Proofs.Ytnfdefeafhepkaa
open Go.RowKit Mem Wk
attribute [local irreducible] Calls Wk.S Wk.C Wk.E Wk.X Wk.T Wk.Y Wk.Z Wk.anV Wk.orV Wk.andV Wk.shlV Wk.shrV Calm.wpLex CalmB.wpLex CalmE.wpLex bfsN
def hunL (E : List Int) (L : List Gt) : Nat → List Int
  | 0 => []
  | k + 1 => if E.getD k 0 < (L.getD k gtO).eats then hunL E L k ++ [(k : Int)] else hunL E L k
theorem hunL_len (E : List Int) (L : List Gt) : ∀ k, (hunL E L k).length ≤ k
  | 0 => by simp [hunL]
  | k + 1 => by
    have := hunL_len E L k
    unfold hunL; split
    · simp; omega
    · omega
theorem fedE {p : Nat → Int} {cs : Array Value} {L : List Gt} (hp : Pv p cs) (hok : ∀ s ∈ L, s.ok) (hv : validGt p L = true) : (fedS p L).E.length = L.length := (fdT_ok0 (validGt_fd hok hv).2 ⟨cs, hp⟩ 12).1.lE
set_option maxRecDepth 100000 in
set_option maxHeartbeats 1600000 in
theorem implHungryGoats_new (p : Nat → Int) (cs : Array Value) (L : List Gt) (g n cap : Nat) (cur : Array Value) (w : World) (hp : Pv p cs) (hok : ∀ s ∈ L, s.ok) (hv : validGt p L = true) (hA : Ap 7 n cap cur (L.map Gt.cells).flatten) (hg : w.heap[g]? = some (.cells cur 68 (0, 0))) :
    Calls Try.prog 27 #[.agg cs, .slice (some ⟨g, 0, none⟩) n cap] w (NewS2 2 1 ((hunL (fedS p L).E L L.length).map (Value.int .i64)) 0 w) := by
  obtain ⟨c', hc'⟩ := fedS_pv hp hok hv
  have hS := hA.slA (lenGt L) hg
  have hsl := hA.toSl (lenGt L) (by omega) hg
  obtain rfl := hA.count (lenGt L) (by omega)
  rw [List.length_map] at hsl ⊢
  obtain ⟨h20, hfd⟩ := validGt_fd hok hv
  have hEl := fedE hp hok hv
  have hfed := fun w' (hb : Below w.heap.size w w') => implFeedByBites_ok p cs c' g 0 cap L w' hp (hsl.below hb) hok hv hc'
  have hE0 : (fdT L.length ⟨p, L, List.replicate L.length 0⟩ (12 * L.length)).E = (fedS p L).E := rfl
  have hL0 : (fdT L.length ⟨p, L, List.replicate L.length 0⟩ (12 * L.length)).L = (fedS p L).L := rfl
  rw [hE0, hL0] at hfed
  generalize (fedS p L).E = E at *
  generalize (fedS p L).L = sL at *
  have hsz := hp.size
  have hsz' := hc'.size
  refine enter2 Try.func27 rfl rfl rfl (Own.start w) ?_
  repeat' (first | (refine s_g ?_; first | (refine s_k 0 rfl ?_; refine zsv (r_move rfl rfl) ?_) | (refine s_k 23 rfl ?_; first | refine zsv (r_field tb rfl rfl rfl) ?_ | refine zsv (r_fieldS tb rfl rfl rfl) ?_) | (refine s_k 8 rfl ?_; first | (refine' s_val rfl rfl rfl (r_ldv rfl rfl ?qm ?qv) ?_; (case qm => (exact zMm)); (case qv => (exact zLe))) | (refine' s_val rfl rfl rfl (r_ldo rfl rfl ?qw (by simp) ?qv) ?_; (case qw => assumption); (case qv => (exact zLe)))) | (refine s_k 1 rfl ?_; refine zsv (r_assign rfl rfl) ?_) | (refine s_k 13 rfl ?_; first | refine zsv (r_lss rfl rfl rfl) ?_ | refine zsv (r_neq rfl rfl rfl) ?_ | refine zsv (r_add rfl rfl rfl zWr) ?_) | (refine s_k 35 rfl ?_; (refine s_newF Try.func23 (by kernel_rfl) rfl rfl rfl rfl rfl rfl (fun w hL => hfed w hL.toBelow) fun gl ge ng ni capg capi cu ci hG0 hI0 => ?_; obtain ⟨rfl, hIq⟩ := InI.of_ap hI0)) | (refine s_k 15 rfl ?_; refine zsv (r_conv tb rfl rfl rfl rfl zWr) ?_) | (refine s_k 25 rfl ?_; first | refine zsv (r_ixN tb rfl rfl rfl rfl (by omega)) ?_ | refine zsv (r_ixA tb rfl rfl rfl rfl (by omega) (by omega)) ?_ | refine zsv (r_ixO tb rfl rfl rfl rfl (by omega)) ?_) | (refine s_k 4 rfl ?_; first | refine s_boxA rfl rfl rfl rfl rfl fun blk => ?_ | refine s_box1 rfl rfl rfl rfl rfl rfl fun blk => ?_) | (refine s_k 9 rfl ?_; (first | refine s_st1 tb rfl rfl rfl rfl rfl rfl rfl rfl ?_ | refine s_stA tb rfl rfl rfl rfl zSz rfl rfl ?_); (first | refine' st0 ?qs ?_ | refine' st1 ?qs ?_ | refine' st2 ?qs ?_ | refine' st3 ?qs ?_ | refine' st4 ?qs ?_ | refine' st5 ?qs ?_ | refine' st6 ?qs ?_ | refine' st7 ?qs ?_ | refine' st8 ?qs ?_ | refine' st9 ?qs ?_ | refine' st10 ?qs ?_ | refine' st11 ?qs ?_); (case qs => (first | exact setP hc' (by first | rfl | assumption) | exact zSet))) | (refine s_k 3 rfl ?_; refine s_allocA (t := 36) rfl zImplPas rfl rfl rfl fun blk => ?_) | (refine s_k 36 rfl ?_; refine zsv (r_len tb rfl rfl rfl) ?_) | (refine s_k 34 rfl ?_; refine zsv (r_extractL rfl rfl rfl) ?_) | (refine s_k 6 rfl ?_; refine s_bsl rfl rfl (fun w => slI0 w) rfl rfl rfl fun blk => ?_) | refine s_nil ?_) | (refine c_g ?_; first | refine c_seq ?_ | refine c_region ?_ | (refine c_gc ?_; first | refine c_cond1 rfl zTr ?_ | refine c_cond0 rfl zTr ?_) | refine c_block ?_ | refine c_skip ?_ | refine c_exit ?_ | refine c_ret ?_) | (refine e_g ?_; first | refine e_then ?_ | refine e_blkn ?_ | refine e_thenx ?_ | refine e_thenr ?_ | refine e_blkr ?_ | refine e_blkx ?_ | refine e_blky rfl ?_))
  rename_i b2 b6
  refine c_loop (ι := Nat × Nat × Nat × Array Value) (fun i => E.length - i.1) (fun i => i.1 ≤ E.length ∧ Ap 1 (hunL E L i.1).length i.2.2.1 i.2.2.2 ((hunL E L i.1).map (Value.int .i64))) (fun i => [(27, .int .i64 (i.1 : Int)), (26, .int .i64 (E.length : Int)), (25, .slice (some ⟨ge, 0, none⟩) E.length capi), (10, .slice (some ⟨i.2.1, 0, none⟩) (hunL E L i.1).length i.2.2.1), (1, .slice (some ⟨g, 0, none⟩) L.length cap)]) (fun i => [(i.2.1, 2, i.2.2.2), (b6, 36, c'), (ge, 2, ci), (gl, 68, cu), (b2, 36, cs)]) (0, blk, 0, #[]) ⟨by simp, Ap.nil 1⟩ ?hs rfl ?_
  case hs => (repeat' (first | exact sub_nil | refine sub_cons rfl ?_))
  rintro ⟨k, go, capo, curo⟩ ⟨hk, hO⟩
  simp only at hk hO ⊢
  have hln := hunL_len E L k
  by_cases hlt : k < E.length
  · have hx : E[k]? = some E[k] := List.getElem?_eq_getElem hlt
    have hy : L[k]? = some (L[k]'(by omega)) := List.getElem?_eq_getElem _
    have hst : hunL E L (k + 1) = if E[k] < (L[k]'(by omega)).eats then hunL E L k ++ [(k : Int)] else hunL E L k := by
      have e1 : E.getD k 0 = E[k] := by simp [List.getD_eq_getElem?_getD, hx]
      have e2 : L.getD k gtO = L[k]'(by omega) := by simp [List.getD_eq_getElem?_getD, hy]
      rw [hunL, e1, e2]
    have hy' : (L.map Gt.cells)[k]? = some (L[k]'(by omega)).cells := by simp [hy]
    have hltL : k < L.length := by omega
    have hce : cur[0 + k * 7 + 5]? = some (.int .i16 (L[k]'(by omega)).eats) := by rw [show 0 + k * 7 + 5 = k * 7 + 5 by omega, hA.elem (lenGt L) hy' 5 (by omega)]; rfl
    have hgk := hok _ (List.mem_of_getElem? hy)
    have l1 := hIq _ _ hx
    generalize E[k] = e at *
    generalize (L[k]'(by omega)) = q at *
    obtain ⟨_, _, _, ⟨he1, he2⟩, _⟩ := hgk
    by_cases hlq : e < q.eats
    case' pos => rw [if_pos hlq] at hst
    case' neg => rw [if_neg hlq] at hst
    all_goals
      repeat' (first | (refine s_g ?_; first | (refine s_k 0 rfl ?_; refine zsv (r_move rfl rfl) ?_) | (refine s_k 23 rfl ?_; first | refine zsv (r_field tb rfl rfl rfl) ?_ | refine zsv (r_fieldS tb rfl rfl rfl) ?_) | (refine s_k 8 rfl ?_; first | refine zsv (r_ldo rfl rfl hg (by simp) (ldv1 tb rfl hce)) ?_ | (refine' s_val rfl rfl rfl (r_ldv rfl rfl ?qm ?qv) ?_; (case qm => (exact zMm)); (case qv => (first | exact ldvL tb rfl rfl | exact ldv1 tb rfl (by assumption) | exact ldv1 tb rfl (l1) | exact zLd))) | (refine' s_val rfl rfl rfl (r_ldo rfl rfl ?qw (by simp) ?qv) ?_; (case qw => assumption); (case qv => (first | exact ldvL tb rfl rfl | exact ldv1 tb rfl (by assumption) | exact ldv1 tb rfl (l1) | exact zLd)))) | (refine s_k 1 rfl ?_; refine zsv (r_assign rfl rfl) ?_) | (refine s_k 13 rfl ?_; first | refine zsv (r_lss rfl rfl rfl) ?_ | refine zsv (r_neq rfl rfl rfl) ?_ | refine zsv (r_add rfl rfl rfl zWr) ?_) | (refine s_k 15 rfl ?_; refine zsv (r_conv tb rfl rfl rfl rfl zWr) ?_) | (refine s_k 25 rfl ?_; first | refine zsv (r_ixO tb rfl rfl rfl rfl hlt) ?_ | refine zsv (r_ixO tb rfl rfl rfl rfl hltL) ?_ | refine zsv (r_ixN tb rfl rfl rfl rfl (by omega)) ?_ | refine zsv (r_ixA tb rfl rfl rfl rfl (by omega) (by omega)) ?_ | refine zsv (r_ixO tb rfl rfl rfl rfl (by omega)) ?_) | (refine s_k 4 rfl ?_; first | refine s_boxA rfl rfl rfl rfl rfl fun blk => ?_ | refine s_box1 rfl rfl rfl rfl rfl rfl fun blk => ?_) | (refine s_k 9 rfl ?_; (first | refine s_st1 tb rfl rfl rfl rfl rfl rfl rfl rfl ?_ | refine s_stA tb rfl rfl rfl rfl zSz rfl rfl ?_); (first | refine' st0 ?qs ?_ | refine' st1 ?qs ?_ | refine' st2 ?qs ?_ | refine' st3 ?qs ?_ | refine' st4 ?qs ?_ | refine' st5 ?qs ?_ | refine' st6 ?qs ?_ | refine' st7 ?qs ?_ | refine' st8 ?qs ?_ | refine' st9 ?qs ?_ | refine' st10 ?qs ?_ | refine' st11 ?qs ?_); (case qs => (first | exact zSet))) | (refine s_k 36 rfl ?_; first | refine s_app0 hO rfl rfl rfl uSlI64 iI64 rfl (by omega) (by simp) (by simp) rfl (by simp [Value.oneCell']) (by unfold maxLen; omega) (by omega) rfl rfl rfl fun g' cap' cur' hO' => ?_ | refine zsv (r_len tb rfl rfl rfl) ?_) | (refine s_k 34 rfl ?_; refine zsv (r_extractL rfl rfl rfl) ?_) | (refine s_k 6 rfl ?_; refine s_bsl rfl rfl (fun w => slI1 _ w) rfl rfl rfl fun blk => ?_) | refine s_nil ?_) | (refine c_g ?_; first | refine c_seq ?_ | refine c_region ?_ | (refine c_gc ?_; first | refine c_cond1 rfl zTr ?_ | refine c_cond0 rfl zTr ?_) | refine c_block ?_ | refine c_skip ?_ | refine c_exit ?_ | refine c_ret ?_) | (refine e_g ?_; first | refine e_then ?_ | refine e_blkn ?_ | refine e_thenx ?_ | refine e_thenr ?_ | refine e_blkr ?_ | refine e_blkx ?_ | refine e_blky rfl ?_) | (refine e_round (k + 1, g', cap', cur') (by simp; omega) ⟨by simp; omega, by simp only [hst]; simpa using hO'⟩ ?_ rfl) | (refine e_round (k + 1, go, capo, curo) (by simp; omega) ⟨by simp; omega, by simp only [hst]; exact hO⟩ ?_ rfl))
      all_goals (rw [hst]; first
        | (exact sub_cons rfl (sub_cons rfl (sub_cons rfl (sub_cons' rfl (by simp) (sub_cons rfl sub_nil)))))
        | (exact sub_cons rfl (sub_cons rfl (sub_cons rfl (sub_cons rfl (sub_cons rfl sub_nil))))))
  · have hkl : k = E.length := by omega
    subst hkl
    rw [hEl] at hO ⊢
    repeat' (first | (refine s_g ?_; first | (refine s_k 0 rfl ?_; refine zsv (r_move rfl rfl) ?_) | (refine s_k 23 rfl ?_; first | refine zsv (r_field tb rfl rfl rfl) ?_ | refine zsv (r_fieldS tb rfl rfl rfl) ?_) | (refine s_k 8 rfl ?_; first | (refine' s_val rfl rfl rfl (r_ldv rfl rfl ?qm ?qv) ?_; (case qm => (exact zMm)); (case qv => (exact zLe))) | (refine' s_val rfl rfl rfl (r_ldo rfl rfl ?qw (by simp) ?qv) ?_; (case qw => assumption); (case qv => (exact zLe)))) | (refine s_k 1 rfl ?_; refine zsv (r_assign rfl rfl) ?_) | (refine s_k 13 rfl ?_; first | refine zsv (r_lss rfl rfl rfl) ?_ | refine zsv (r_neq rfl rfl rfl) ?_ | refine zsv (r_add rfl rfl rfl zWr) ?_) | (refine s_k 15 rfl ?_; refine zsv (r_conv tb rfl rfl rfl rfl zWr) ?_) | (refine s_k 25 rfl ?_; first | refine zsv (r_ixN tb rfl rfl rfl rfl (by omega)) ?_ | refine zsv (r_ixA tb rfl rfl rfl rfl (by omega) (by omega)) ?_ | refine zsv (r_ixO tb rfl rfl rfl rfl (by omega)) ?_) | (refine s_k 4 rfl ?_; first | refine s_boxA rfl rfl rfl rfl rfl fun blk => ?_ | refine s_box1 rfl rfl rfl rfl rfl rfl fun blk => ?_) | (refine s_k 9 rfl ?_; (first | refine s_st1 tb rfl rfl rfl rfl rfl rfl rfl rfl ?_ | refine s_stA tb rfl rfl rfl rfl zSz rfl rfl ?_); (first | refine' st0 ?qs ?_ | refine' st1 ?qs ?_ | refine' st2 ?qs ?_ | refine' st3 ?qs ?_ | refine' st4 ?qs ?_ | refine' st5 ?qs ?_ | refine' st6 ?qs ?_ | refine' st7 ?qs ?_ | refine' st8 ?qs ?_ | refine' st9 ?qs ?_ | refine' st10 ?qs ?_ | refine' st11 ?qs ?_); (case qs => (first | exact zSet))) | (refine s_k 36 rfl ?_; refine zsv (r_len tb rfl rfl rfl) ?_) | (refine s_k 34 rfl ?_; refine zsv (r_extractL rfl rfl rfl) ?_) | refine s_nil ?_) | (refine c_g ?_; first | refine c_seq ?_ | refine c_region ?_ | (refine c_gc ?_; first | refine c_cond1 rfl zTr ?_ | refine c_cond0 rfl zTr ?_) | refine c_block ?_ | refine c_skip ?_ | refine c_exit ?_ | refine c_ret ?_) | (refine e_g ?_; first | refine e_then ?_ | refine e_blkn ?_ | refine e_thenx ?_ | refine e_thenr ?_ | refine e_blkr ?_ | refine e_blkx ?_ | refine e_blky rfl ?_) | (refine e_ret2 (by simp) rfl (re_tmp rfl) (re_tmp rfl) fun w hL => NewS2.of hO hL m0))
end Go.Proofs.Ytnfdefeafhepkaa
