import Derived.Test.YtnafnhpajkhgkaaQY15
import Derived.Test.YtnafnhpajkhgkaaQY34
import Derived.Test.YtnafnhpajkhgkaaQY37
/- The reference's search for cells: every call. A valid pasture, cells of it. -/
namespace Go.Proofs.Ytnafnhpajkhgkaa
set_option linter.unusedVariables false
set_option linter.unusedSimpArgs false
open Go Go.RowKit Mem Wk
theorem adN_at {c : Sp} {N : List Sp} {j : Nat} {d : Sp} {q : List Sp × (Nat → Bool)} (hd : N[j]? = some d) : (N.take (j + 1)).foldl adN q = adN ((N.take j).foldl adN q) d := by
  rw [List.take_add_one, hd, List.foldl_append]; rfl
theorem adN_len : ∀ (N : List Sp) (q : List Sp × (Nat → Bool)), (N.foldl adN q).1.length ≤ q.1.length + N.length
  | [], q => by simp
  | d :: N, q => by
    have h := adN_len N (adN q d)
    have h2 : (adN q d).1.length ≤ q.1.length + 1 := by unfold adN; split <;> simp
    rw [List.foldl_cons]; simp only [List.length_cons]; omega
theorem GB.mark1 {f : Nat → Bool} {cs : Array Value} (h : GB f cs) {d : Sp} (hd : inR d) : GB (fun j => f j || decide (ci d = j)) (cs.setIfInBounds (0 + d.y.toNat * 10 + d.x.toNat * 1) (.bool true)) := by
  have hci : ci d = 0 + d.y.toNat * 10 + d.x.toNat * 1 := by unfold ci; omega
  have hs := h.size
  have hlt : ci d < 100 := by have := hd; unfold inR at this; rw [hci]; omega
  rw [← hci]
  refine ⟨by simpa using hs, fun j hj => ?_⟩
  by_cases e : ci d = j
  · subst e
    rw [Array.getElem?_setIfInBounds_self_of_lt (by omega)]; simp
  · rw [Array.getElem?_setIfInBounds_ne e, h.get j hj, decide_eq_false e, Bool.or_false]
theorem GB.atI {f : Nat → Bool} {cs : Array Value} (h : GB f cs) {d : Sp} (hd : inR d) : cs[0 + d.y.toNat * 10 + d.x.toNat * 1]? = some (.bool (f (ci d))) := by
  have hci : ci d = 0 + d.y.toNat * 10 + d.x.toNat * 1 := by unfold ci; omega
  rw [← hci]
  exact h.get _ (ci_lt hd)
attribute [local irreducible] Calls Wk.S Wk.C Wk.E Wk.X Wk.T Wk.Y Wk.ZH Wk.andV Wk.shrV Calm.wpLex CalmB.wpLex bfsN bfs stepsP bstV parV visN CalmH.indP
set_option maxRecDepth 100000 in
set_option maxHeartbeats 6400000 in
theorem grow_any (p : Nat → Int) (cs : Array Value) (Tp : TypeId) (gp gw k : Nat) (s : Sp) (hp : Pv p cs) (hv : validP p = true) (hs : cel p s) (hpw : gp ≠ gw) (hk6 : k ≤ 6) : ∀ (n : Nat) (l nx : List Sp) (met : Nat → Bool) (gl capl gn capn : Nat) (curl curn cm : Array Value) (v : Value) (b : List Sp) (m : Int) (w : World),
    w.heap[gp]? = some (.cells cs Tp (0, 0)) → w.heap[gw]? = some (.cells (srC gp k v m) 88 (0, 0)) → Ap 2 l.length capl curl (flS l) → w.heap[gl]? = some (.cells curl 52 (0, 0)) → gl ≠ gw → Ap 2 nx.length capn curn (flS nx) → w.heap[gn]? = some (.cells curn 52 (0, 0)) → gn ≠ gw → GB met cm → BestB w gw v b → (b = [] ∨ b.length = k) → l.length + n = k → GInv p s n l nx met →
    Calls Try.prog 48 #[.pointer (some ⟨gw, 0, none⟩), .slice (some ⟨gl, 0, none⟩) l.length capl, .slice (some ⟨gn, 0, none⟩) nx.length capn, .agg cm] w (GrowR gw gp k v (b, m) (bstV p (b, m) (visN p n l nx met)) w) := by
  intro n
  induction n with
  | zero =>
    intro l nx met gl capl gn capn curl curn cm v b m w hg hgw hAl hgl hlw hAn hgn hnw hm hB hbl hk hI
    rcases hI.1 with ⟨_, _, h⟩ | ⟨hgro, _⟩
    · omega
    · have hne : l ≠ [] := fun e => by have := hgro.mem_s; rw [e] at this; cases this
      have h := grow_leaf p cs Tp gp gw k l nx gl capl gn capn curl curn cm met v b m w hp hv hg hpw hgw hAl hgl hlw hm hB hbl (by omega) hne hgro.nodup (hgro.cels hs) hk6 (.slice (some ⟨gn, 0, none⟩) nx.length capn)
      have e : bstV p (b, m) (visN p 0 l nx met) = bstG (opnF p) (b, m) (ordL l) := by unfold bstV visN; rfl
      rw [e]; exact h
  | succ n IH =>
    intro l nx met gl capl gn capn curl curn cm v b m w hg hgw hAl hgl hlw hAn hgn hnw hm hB hbl hk hI
    have hva := valid_leA hv
    have hcel := hI.cels hs
    have hnlen : nx.length ≤ 100 := nodup_len ((List.nodup_append.1 hI.2.1).2.1) fun c hc => isC_range (hcel c (List.mem_append_right _ hc))
    have hpar0 : bstV p (b, m) (parV p n l nx met 0) = (b, m) := by unfold bstV parV; rfl
    have hparN : bstV p (b, m) (parV p n l nx met nx.length) = bstV p (b, m) (visN p (n + 1) l nx met) := by rw [parV_all]
    have hstep := fun i c hc => parV_succ (p := p) (n := n) (i := i) (l := l) (nx := nx) (met := met) (c := c) hc
    have hSn : SlA [gw] w 2 (some ⟨gn, 0, none⟩) (nx.map Sp.cells) := fun i c hc => by
      obtain ⟨q1, b', o', q2, q3, q4⟩ := (hAn.slA (lenSp nx) hgn) i c hc
      injection q2 with q2; injection q2 with e1 e2
      subst e1; subst e2
      exact ⟨q1, _, _, rfl, by simpa using hnw, q4⟩
    have hSl : SlA [gw] w 2 (some ⟨gl, 0, none⟩) (l.map Sp.cells) := fun i c hc => by
      obtain ⟨q1, b', o', q2, q3, q4⟩ := (hAl.slA (lenSp l) hgl) i c hc
      injection q2 with q2; injection q2 with e1 e2
      subst e1; subst e2
      exact ⟨q1, _, _, rfl, by simpa using hlw, q4⟩
    have hle := hAn.le
    have hlk : l.length < k := by omega
    have hms := hm.size
    unfold GrowR
    rw [← hparN]
    generalize hQ : (fun i => bstV p (b, m) (parV p n l nx met i)) = Qf
    have hQ' : ∀ i, bstV p (b, m) (parV p n l nx met i) = Qf i := fun i => by rw [← hQ]
    rw [hQ'] at hpar0 ⊢
    clear hparN
    unfold srC at hgw
    refine enter4 Try.func48 rfl rfl rfl (Own.startAt w hgw) ?_
    repeat' (first
      | (refine s_g ?_; first
      | (refine s_gd rfl ?_; first | refine s_gd1 rfl rfl zTr ?_ | refine s_gd0 rfl rfl rfl zTr ?_ | refine s_gd00 rfl rfl zTr ?_ | refine s_gp1 rfl rfl rfl (fun hc => ?_) (fun hc => ?_) | refine s_gp0 rfl rfl rfl (fun hc => ?_) (fun hc => ?_) | refine s_gnp1 rfl rfl rfl (fun hc => ?_) (fun hc => ?_) | refine s_gnp0 rfl rfl rfl (fun hc => ?_) (fun hc => ?_) | refine s_gb1 rfl rfl rfl (fun hc => ?_) (fun hc => ?_) | refine s_gb0 rfl rfl rfl (fun hc => ?_) (fun hc => ?_) | refine s_gnb1 rfl rfl rfl (fun hc => ?_) (fun hc => ?_) | refine s_gnb0 rfl rfl rfl (fun hc => ?_) (fun hc => ?_))
      | (refine s_k 0 rfl ?_; refine s_val rfl rfl rfl (r_move rfl rfl) ?_)
      | (refine s_k 23 rfl ?_; first | refine s_val rfl rfl rfl (r_field tb rfl rfl rfl) ?_ | refine s_val rfl rfl rfl (r_fieldS tb rfl rfl rfl) ?_)
      | (refine s_k 8 rfl ?_; first | (refine' s_val rfl rfl rfl (r_ldv rfl rfl ?qm ?qv) ?_; (case qm => (exact zMm)); (case qv => (exact zLe))) | (refine' s_val rfl rfl rfl (r_ldo rfl rfl ?qw (by simp) ?qv) ?_; (case qw => assumption); (case qv => (exact zLe))))
      | (refine s_k 1 rfl ?_; refine s_val rfl rfl rfl (r_assign rfl rfl) ?_)
      | (refine s_k 13 rfl ?_; first | refine s_val rfl rfl rfl (r_lss rfl rfl rfl) ?_ | refine s_val rfl rfl rfl (r_eql rfl rfl rfl) ?_ | refine s_val rfl rfl rfl (r_add rfl rfl rfl (wrap_in (by simp only [lo, hi]; omega))) ?_)
      | (refine s_k 14 rfl ?_; refine s_val rfl rfl rfl (r_not rfl rfl) ?_)
      | (refine s_k 2 rfl ?_; first | refine s_val rfl rfl rfl (r_pick1 rfl rfl zTr rfl) ?_ | refine s_val rfl rfl rfl (r_pick0 rfl rfl zTr rfl) ?_)
      | (refine s_k 25 rfl ?_; first | refine s_val rfl rfl rfl (r_ixN tb rfl rfl rfl rfl (by omega)) ?_ | refine s_val rfl rfl rfl (r_ixA tb rfl rfl rfl rfl (by omega) (by omega)) ?_ | refine s_val rfl rfl rfl (r_ixO tb rfl rfl rfl rfl (by omega)) ?_)
      | (refine s_k 4 rfl ?_; first | refine s_boxA rfl rfl rfl rfl rfl fun blk => ?_ | refine s_box1 rfl rfl rfl rfl rfl rfl fun blk => ?_)
      | (refine s_k 9 rfl ?_; (first | refine s_st1 tb rfl rfl rfl rfl rfl rfl rfl rfl ?_ | refine s_stA tb rfl rfl rfl rfl (by first | rfl | assumption | (apply Pv.size; assumption)) rfl rfl ?_); (first | refine' st0 ?qs ?_ | refine' st1 ?qs ?_ | refine' st2 ?qs ?_ | refine' st3 ?qs ?_ | refine' st4 ?qs ?_ | refine' st5 ?qs ?_ | refine' st6 ?qs ?_ | refine' st7 ?qs ?_ | refine' st8 ?qs ?_ | refine' st9 ?qs ?_ | refine' st10 ?qs ?_ | refine' st11 ?qs ?_); (case qs => (first | exact zSet)))
      | (refine s_k 36 rfl ?_; refine s_val rfl rfl rfl (r_len tb rfl rfl rfl) ?_)
      | (refine s_k 12 rfl ?_; refine s_val rfl rfl rfl (r_nil rfl rfl) ?_)
      | refine s_nil ?_)
      | (refine c_g ?_; first | refine c_seq ?_ | refine c_region ?_ | (refine c_gc ?_; first | refine c_cond1 rfl zTr ?_ | refine c_cond0 rfl zTr ?_ | refine z_condd1 rfl ?_ | refine z_condd0 rfl ?_ | refine z_conddn1 rfl ?_ | refine z_conddn0 rfl ?_ | refine c_condd rfl (fun hc => ?_) (fun hc => ?_) | refine c_conddn rfl (fun hc => ?_) (fun hc => ?_) | refine c_condn rfl (fun hc => ?_) (fun hc => ?_) | refine c_cond rfl (fun hc => ?_) (fun hc => ?_)) | refine c_block ?_ | refine c_skip ?_ | refine c_exit ?_ | refine c_ret ?_)
      | (refine e_g ?_; first | refine e_then ?_ | refine e_blkn ?_ | refine e_thenx ?_ | refine e_thenr ?_ | refine e_blkr ?_ | refine e_blkx ?_ | refine e_blky rfl ?_))
    revert blk; intro b7
    refine c_loop (ι := Nat × Value × List (Nat × TypeId × Array Value)) (fun i => nx.length - i.1) (fun i => i.1 ≤ nx.length ∧ BestL w gw i.2.2 i.2.1 (Qf i.1).1 ∧ ((Qf i.1).1 = [] ∨ (Qf i.1).1.length = k) ∧ (i.2.2 = [] → i.2.1 = v ∧ (Qf i.1).1 = b)) (fun i => [(11, .int .i64 (i.1 : Int)), (7, .pointer (some ⟨b7, 0, none⟩)), (0, .pointer (some ⟨gw, 0, none⟩)), (1, .slice (some ⟨gl, 0, none⟩) l.length capl), (2, .slice (some ⟨gn, 0, none⟩) nx.length capn)]) (fun i => (b7, 90, cm) :: (gw, 88, srC gp k i.2.1 (Qf i.1).2) :: i.2.2) (0, v, []) ⟨by simp, by simp only [hpar0]; exact .inl ⟨rfl, hB⟩, by simp only [hpar0]; exact hbl, fun _ => ⟨rfl, by simp only [hpar0]⟩⟩ ?hs (by simp only [hpar0]; rfl) ?_
    case hs => (repeat' (first | exact sub_nil | refine sub_cons rfl ?_))
    rintro ⟨i, v1, R⟩ ⟨hi1, hBL, hbl1, hR0⟩
    simp only at hi1 hBL hbl1 hR0 ⊢
    by_cases hlt : i < nx.length
    · have hx : nx[i]? = some nx[i] := List.getElem?_eq_getElem hlt
      have hxa : (nx.map Sp.cells)[i]? = some nx[i].cells := by simp [hx]
      have hka : i < (nx.map Sp.cells).length := by simpa using hlt
      have hQ1 : Qf (i + 1) = bstV p (Qf i) (visN p n (l ++ [nx[i]]) ((nbP p nx[i]).foldl adN (nx.drop (i + 1), met)).1 ((nbP p nx[i]).foldl adN (nx.drop (i + 1), met)).2) := by
        rw [← hQ' (i + 1), hstep i _ hx, bstV_app, hQ']
      have hcc := hcel nx[i] (by simp)
      have hIs := hI.step hx
      have hvl := vis_snd (p := p) (s := s) n (l ++ [nx[i]]) _ _ hIs.1 hIs.2.1 hIs.2.2
      generalize nx[i] = c at *
      have hcR := isC_range hcc
      obtain ⟨off', hoff, hSd⟩ : ∃ off', (if capn = i + 1 then some ⟨gn, 0, none⟩ else some ⟨gn, 0 + (i + 1) * 2, none⟩ : Option Addr) = some ⟨gn, off', none⟩ ∧ SlA [gw] w 2 (some ⟨gn, off', none⟩) ((nx.drop (i + 1)).map Sp.cells) := by
        by_cases e : capn = i + 1
        · refine ⟨0, by rw [if_pos e], ?_⟩
          have : nx.drop (i + 1) = [] := List.drop_eq_nil_of_le (by omega)
          rw [this]; exact fun i c hc => by simp at hc
        · refine ⟨0 + (i + 1) * 2, by rw [if_neg e], ?_⟩
          have h := hSn.drop (i + 1)
          rw [← List.map_drop] at h; exact h
      have hbes := fun T w hg => l01Beside_any p cs T gp c.x c.y w hp hg hva.1 hva.2 ⟨hcR.1, hcR.2.1⟩ hcR.2.2
      have hnb : besL p c.x c.y 4 = nbP p c := rfl
      rw [hnb] at hbes
      have hnbl : (nbP p c).length ≤ 4 := besL_len p _ _ 4
      have hnbR : ∀ d ∈ nbP p c, inR d := fun d hd => nbP_ok p _ d hd
      have hdl : (nx.drop (i + 1)).length = nx.length - (i + 1) := by simp
      have hfd := flS_len (nx.drop (i + 1))
      have hql := fun j => adN_len ((nbP p c).take j) (nx.drop (i + 1), met)
      have hqat := fun j d hd => adN_at (c := c) (N := nbP p c) (j := j) (d := d) (q := (nx.drop (i + 1), met)) hd
      have hbl2 : (Qf (i + 1)).1 = [] ∨ (Qf (i + 1)).1.length = k := by
        rw [hQ1]
        refine bstV_len (fun X hX => ?_) hbl1
        obtain ⟨h1, h2⟩ := hvl X hX
        rw [ordL_size (fun d hd => isC_range (h1.cels hs d hd)) h1.nodup, h2]; simp; omega
      have hq0 : ((nbP p c).take 0).foldl adN (nx.drop (i + 1), met) = (nx.drop (i + 1), met) := rfl
      have hqN : ((nbP p c).take (nbP p c).length).foldl adN (nx.drop (i + 1), met) = (nbP p c).foldl adN (nx.drop (i + 1), met) := by rw [List.take_length]
      generalize hNB : nbP p c = NB at *
      generalize hDR : nx.drop (i + 1) = DR at *
      unfold srC
      repeat' (first
        | (refine s_g ?_; first
      | (refine s_gd rfl ?_; first | refine s_gd1 rfl rfl zTr ?_ | refine s_gd0 rfl rfl rfl zTr ?_ | refine s_gd00 rfl rfl zTr ?_ | refine s_gp1 rfl rfl rfl (fun hc => ?_) (fun hc => ?_) | refine s_gp0 rfl rfl rfl (fun hc => ?_) (fun hc => ?_) | refine s_gnp1 rfl rfl rfl (fun hc => ?_) (fun hc => ?_) | refine s_gnp0 rfl rfl rfl (fun hc => ?_) (fun hc => ?_) | refine s_gb1 rfl rfl rfl (fun hc => ?_) (fun hc => ?_) | refine s_gb0 rfl rfl rfl (fun hc => ?_) (fun hc => ?_) | refine s_gnb1 rfl rfl rfl (fun hc => ?_) (fun hc => ?_) | refine s_gnb0 rfl rfl rfl (fun hc => ?_) (fun hc => ?_))
      | (refine s_k 0 rfl ?_; refine s_val rfl rfl rfl (r_move rfl rfl) ?_)
      | (refine s_k 23 rfl ?_; first | refine s_val rfl rfl rfl (r_field tb rfl rfl rfl) ?_ | refine s_val rfl rfl rfl (r_fieldS tb rfl rfl rfl) ?_)
      | (refine s_k 8 rfl ?_; first | refine s_val rfl rfl rfl (r_ldS (i := i) tb rfl hSn rfl hxa rfl) ?_ | (refine' s_val rfl rfl rfl (r_ldv rfl rfl ?qm ?qv) ?_; (case qm => (exact zMm)); (case qv => (exact zLe))) | (refine' s_val rfl rfl rfl (r_ldo rfl rfl ?qw (by simp) ?qv) ?_; (case qw => assumption); (case qv => (exact zLe))))
      | (refine s_k 1 rfl ?_; refine s_val rfl rfl rfl (r_assign rfl rfl) ?_)
      | (refine s_k 13 rfl ?_; first | refine s_val rfl rfl rfl (r_lss rfl rfl rfl) ?_ | refine s_val rfl rfl rfl (r_eql rfl rfl rfl) ?_ | refine s_val rfl rfl rfl (r_add rfl rfl rfl (wrap_in (by simp only [lo, hi]; omega))) ?_)
      | (refine s_k 14 rfl ?_; refine s_val rfl rfl rfl (r_not rfl rfl) ?_)
      | (refine s_k 2 rfl ?_; first | refine s_val rfl rfl rfl (r_pick1 rfl rfl zTr rfl) ?_ | refine s_val rfl rfl rfl (r_pick0 rfl rfl zTr rfl) ?_)
      | (refine s_k 25 rfl ?_; first | refine s_val rfl rfl rfl (r_ixS (i := i) tb rfl hSn rfl rfl rfl (by simp) hka) ?_ | refine s_val rfl rfl rfl (r_ixN tb rfl rfl rfl rfl (by omega)) ?_ | refine s_val rfl rfl rfl (r_ixA tb rfl rfl rfl rfl (by omega) (by omega)) ?_ | refine s_val rfl rfl rfl (r_ixO tb rfl rfl rfl rfl (by omega)) ?_)
      | (refine s_k 4 rfl ?_; first | refine s_boxA rfl rfl rfl rfl rfl fun blk => ?_ | refine s_box1 rfl rfl rfl rfl rfl rfl fun blk => ?_)
      | (refine s_k 9 rfl ?_; (first | refine s_st1 tb rfl rfl rfl rfl rfl rfl rfl rfl ?_ | refine s_stA tb rfl rfl rfl rfl (by first | rfl | assumption | (apply Pv.size; assumption)) rfl rfl ?_); (first | refine' st0 ?qs ?_ | refine' st1 ?qs ?_ | refine' st2 ?qs ?_ | refine' st3 ?qs ?_ | refine' st4 ?qs ?_ | refine' st5 ?qs ?_ | refine' st6 ?qs ?_ | refine' st7 ?qs ?_ | refine' st8 ?qs ?_ | refine' st9 ?qs ?_ | refine' st10 ?qs ?_ | refine' st11 ?qs ?_); (case qs => (first | exact setB hm zFl_ok.size | exact zSet)))
      | (refine s_k 3 rfl ?_; refine s_allocA (t := 90) rfl zF1010 rfl rfl rfl fun blk => ?_)
      | (refine s_k 36 rfl ?_; first | refine s_appM (pre := []) rfl uSpotS iSpot rfl (by omega) (Ap.nil 2) (by simp) (fun w hL => (hSd.at_ hL).news) (by rw [← hdl]; exact hfd) rfl rfl (flS_one DR) (by unfold maxLen; omega) (by omega) rfl rfl rfl fun g12 cap12 cur12 hA12 => ?_ | refine s_val rfl rfl rfl (r_len tb rfl rfl rfl) ?_)
      | (refine s_k 22 rfl ?_; refine s_val rfl rfl rfl (r_slcO (i := i + 1) tb hoff rfl rfl rfl rfl (by omega)) ?_)
      | (refine s_k 12 rfl ?_; refine s_val rfl rfl rfl (r_nil rfl rfl) ?_)
      | (refine s_k 6 rfl ?_; refine s_bsl rfl rfl (fun w => slSpot0 w) rfl rfl rfl fun blk => ?_)
      | refine s_nil ?_)
        | (refine c_g ?_; first | refine c_seq ?_ | refine c_region ?_ | (refine c_gc ?_; first | refine c_cond1 rfl zTr ?_ | refine c_cond0 rfl zTr ?_ | refine z_condd1 rfl ?_ | refine z_condd0 rfl ?_ | refine z_conddn1 rfl ?_ | refine z_conddn0 rfl ?_ | refine c_condd rfl (fun hc => ?_) (fun hc => ?_) | refine c_conddn rfl (fun hc => ?_) (fun hc => ?_) | refine c_condn rfl (fun hc => ?_) (fun hc => ?_) | refine c_cond rfl (fun hc => ?_) (fun hc => ?_)) | refine c_block ?_ | refine c_skip ?_ | refine c_exit ?_ | refine c_ret ?_)
        | (refine e_g ?_; first | refine e_then ?_ | refine e_blkn ?_ | refine e_thenx ?_ | refine e_thenr ?_ | refine e_blkr ?_ | refine e_blkx ?_ | refine e_blky rfl ?_)
        | (refine y_g ?_; first
      | (refine y_gd rfl ?_; first | refine y_gd1 rfl rfl zTr ?_ | (refine y_gd0 rfl rfl rfl zTr ?hp ?_; (case hp => exact rfl)))
      | (refine y_k 23 rfl ?_; first | (refine y_val rfl rfl rfl (r_field tb rfl rfl rfl) ?hp ?_; (case hp => exact rfl)) | (refine y_val rfl rfl rfl (r_fieldS tb rfl rfl rfl) ?hp ?_; (case hp => exact rfl)))
      | (refine y_k 8 rfl ?_; first | (refine y_val rfl rfl rfl (r_ldS (i := i) tb rfl hSn rfl hxa rfl) ?hp ?_; (case hp => exact rfl)) | (refine' y_val rfl rfl rfl (r_ldv rfl rfl ?qm ?qv) ?hp ?_; (case qm => (exact zMm)); (case qv => (exact zLe)); (case hp => exact rfl)) | (refine' y_val rfl rfl rfl (r_ldo rfl rfl ?qw (by simp) ?qv) ?hp ?_; (case qw => assumption); (case qv => (exact zLe)); (case hp => exact rfl)))
      | (refine y_k 13 rfl ?_; first | (refine y_val rfl rfl rfl (r_lss rfl rfl rfl) ?hp ?_; (case hp => exact rfl)) | (refine y_val rfl rfl rfl (r_eql rfl rfl rfl) ?hp ?_; (case hp => exact rfl)) | (refine y_val rfl rfl rfl (r_add rfl rfl rfl (wrap_in (by simp only [lo, hi]; omega))) ?hp ?_; (case hp => exact rfl)))
      | (refine y_k 35 rfl ?_; (refine' y_callN Try.func91 (by kernel_rfl) rfl rfl rfl rfl rfl rfl (fun w hL => hbes _ w (Kn.old hL hg (by simpa using hpw))) (flS_len NB) (by unfold maxLen; omega) ?hp (fun gb kb capb curb hAb => ?_); (case hp => exact rfl); obtain rfl := hAb.cnt))
      | (refine y_k 14 rfl ?_; (refine y_val rfl rfl rfl (r_not rfl rfl) ?hp ?_; (case hp => exact rfl)))
      | (refine y_k 2 rfl ?_; first | (refine y_val rfl rfl rfl (r_pick1 rfl rfl zTr rfl) ?hp ?_; (case hp => exact rfl)) | (refine y_val rfl rfl rfl (r_pick0 rfl rfl zTr rfl) ?hp ?_; (case hp => exact rfl)))
      | (refine y_k 25 rfl ?_; first | (refine y_val rfl rfl rfl (r_ixS (i := i) tb rfl hSn rfl rfl rfl (by simp) hka) ?hp ?_; (case hp => exact rfl)) | (refine y_val rfl rfl rfl (r_ixN tb rfl rfl rfl rfl (by omega)) ?hp ?_; (case hp => exact rfl)) | (refine y_val rfl rfl rfl (r_ixA tb rfl rfl rfl rfl (by omega) (by omega)) ?hp ?_; (case hp => exact rfl)) | (refine y_val rfl rfl rfl (r_ixO tb rfl rfl rfl rfl (by omega)) ?hp ?_; (case hp => exact rfl)))
      | (refine y_k 36 rfl ?_; (refine y_val rfl rfl rfl (r_len tb rfl rfl rfl) ?hp ?_; (case hp => exact rfl)))
      | (refine y_k 22 rfl ?_; (refine y_val rfl rfl rfl (r_slcO (i := i + 1) tb hoff rfl rfl rfl rfl (by omega)) ?hp ?_; (case hp => exact rfl)))
      | (refine y_k 12 rfl ?_; (refine y_val rfl rfl rfl (r_nil rfl rfl) ?hp ?_; (case hp => exact rfl)))
      | refine y_nil0 ?_
      | refine y_nil ?_
      | (refine' y_k 0 rfl ?_; (refine' y_move rfl rfl rfl rfl rfl ?hp ?_; (case hp => exact rfl)))
      | (refine' y_k 1 rfl ?_; (refine' y_assign rfl rfl rfl rfl rfl ?hp ?_; (case hp => exact rfl)))
      | (refine' y_k 6 rfl ?_; (refine' y_bsl rfl rfl (fun w => slSpot0 w) rfl rfl rfl ?hp (fun blk => ?_); (case hp => exact rfl))))
        | (refine' c_drawY (id := 13) [(Sum.inl _ : CalmB.Plan), (Sum.inl _ : CalmB.Plan), (Sum.inl _ : CalmB.Plan), (Sum.inl _ : CalmB.Plan), (Sum.inl _ : CalmB.Plan), (Sum.inl _ : CalmB.Plan), (Sum.inl _ : CalmB.Plan), (Sum.inl _ : CalmB.Plan), (Sum.inr _ : CalmB.Plan), (Sum.inl _ : CalmB.Plan)] (by kernel_rfl) (by kernel_rfl) ?_))
      revert blk; intro b13
      refine c_loop (ι := Nat × Nat × Nat × Array Value × Array Value) (fun j => NB.length - j.1) (fun j => j.1 ≤ NB.length ∧ Ap 2 ((NB.take j.1).foldl adN (DR, met)).1.length j.2.2.1 j.2.2.2.1 (flS ((NB.take j.1).foldl adN (DR, met)).1) ∧ GB ((NB.take j.1).foldl adN (DR, met)).2 j.2.2.2.2) (fun j => [(15, .int .i64 (j.1 : Int)), (14, .slice (some ⟨gb, 0, none⟩) NB.length capb), (13, .pointer (some ⟨b13, 0, none⟩)), (12, .slice (some ⟨j.2.1, 0, none⟩) ((NB.take j.1).foldl adN (DR, met)).1.length j.2.2.1), (11, .int .i64 (i : Int)), (7, .pointer (some ⟨b7, 0, none⟩)), (0, .pointer (some ⟨gw, 0, none⟩)), (1, .slice (some ⟨gl, 0, none⟩) l.length capl), (2, .slice (some ⟨gn, 0, none⟩) nx.length capn)]) (fun j => (gb, 52, curb) :: (b13, 90, j.2.2.2.2) :: (j.2.1, 52, j.2.2.2.1) :: (b7, 90, cm) :: (gw, 88, srC gp k v1 (Qf i).2) :: R) (0, g12, cap12, cur12, cm) ⟨by simp, by simp only [hq0]; rw [hdl]; rw [Nat.zero_add] at hA12; exact hA12, by simp only [hq0]; exact hm⟩ ?hs rfl ?_
      case hs => (repeat' (first | exact sub_nil | refine sub_cons rfl ?_ | refine sub_cons' rfl (by simp [hdl]) ?_))
      clear hA12
      rintro ⟨j, g12, cap12, cur12, cn⟩ ⟨hj, hA12, hGn⟩
      simp only at hj hA12 hGn ⊢
      have hqlj := hql j
      rw [List.length_take] at hqlj
      simp only at hqlj
      by_cases hltj : j < NB.length
      · have hy : NB[j]? = some NB[j] := List.getElem?_eq_getElem hltj
        have hyR := hnbR _ (List.getElem_mem hltj)
        have hqs := hqat j _ hy
        have hxe := hAb.cx hy
        have hye := hAb.cy hy
        have hspy := hAb.spot hy
        generalize NB[j] = d at *
        generalize hqj : (NB.take j).foldl adN (DR, met) = qj at *
        obtain ⟨mj, fj⟩ := qj
        simp only at hA12 hGn hqlj ⊢
        have hrn : (0 ≤ d.x ∧ d.x < 10) ∧ 0 ≤ d.y ∧ d.y < 10 := ⟨⟨hyR.1, hyR.2.1⟩, hyR.2.2⟩
        have hat := hGn.atI hyR
        have hmk := hGn.mark1 hyR
        have hns := hGn.size
        cases hfd : fj (ci d)
        · rw [hfd] at hat
          have hqs' : (NB.take (j + 1)).foldl adN (DR, met) = (mj ++ [d], fun j => fj j || decide (ci d = j)) := by rw [hqs]; unfold adN; rw [if_neg (by simp [hfd])]
          repeat' (first
            | (refine s_g ?_; first
      | (refine s_gd rfl ?_; first | refine s_gd1 rfl rfl zTr ?_ | refine s_gd0 rfl rfl rfl zTr ?_ | refine s_gd00 rfl rfl zTr ?_ | refine s_gp1 rfl rfl rfl (fun hc => ?_) (fun hc => ?_) | refine s_gp0 rfl rfl rfl (fun hc => ?_) (fun hc => ?_) | refine s_gnp1 rfl rfl rfl (fun hc => ?_) (fun hc => ?_) | refine s_gnp0 rfl rfl rfl (fun hc => ?_) (fun hc => ?_) | refine s_gb1 rfl rfl rfl (fun hc => ?_) (fun hc => ?_) | refine s_gb0 rfl rfl rfl (fun hc => ?_) (fun hc => ?_) | refine s_gnb1 rfl rfl rfl (fun hc => ?_) (fun hc => ?_) | refine s_gnb0 rfl rfl rfl (fun hc => ?_) (fun hc => ?_))
      | (refine s_k 0 rfl ?_; refine s_val rfl rfl rfl (r_move rfl rfl) ?_)
      | (refine s_k 23 rfl ?_; first | refine s_val rfl rfl rfl (r_field tb rfl rfl rfl) ?_ | refine s_val rfl rfl rfl (r_fieldS tb rfl rfl rfl) ?_)
      | (refine s_k 8 rfl ?_; first | refine s_val rfl rfl rfl (r_ldN tb rfl rfl m0 rfl hspy.1 hspy.2) ?_ | (refine' s_val rfl rfl rfl (r_ldv rfl rfl ?qm ?qv) ?_; (case qm => (exact zMm)); (case qv => (first | exact ldvL tb rfl rfl | exact ldv1 tb rfl (by assumption) | exact ldv1 tb rfl (hat) | exact ldv1 tb rfl (hxe) | exact ldv1 tb rfl (hye) | exact zLd))) | (refine' s_val rfl rfl rfl (r_ldo rfl rfl ?qw (by simp) ?qv) ?_; (case qw => assumption); (case qv => (first | exact ldvL tb rfl rfl | exact ldv1 tb rfl (by assumption) | exact ldv1 tb rfl (hat) | exact ldv1 tb rfl (hxe) | exact ldv1 tb rfl (hye) | exact zLd))))
      | (refine s_k 1 rfl ?_; refine s_val rfl rfl rfl (r_assign rfl rfl) ?_)
      | (refine s_k 13 rfl ?_; first | refine s_val rfl rfl rfl (r_lss rfl rfl rfl) ?_ | refine s_val rfl rfl rfl (r_eql rfl rfl rfl) ?_ | refine s_val rfl rfl rfl (r_add rfl rfl rfl (wrap_in (by simp only [lo, hi]; omega))) ?_)
      | (refine s_k 14 rfl ?_; refine s_val rfl rfl rfl (r_not rfl rfl) ?_)
      | (refine s_k 2 rfl ?_; first | refine s_val rfl rfl rfl (r_pick1 rfl rfl zTr rfl) ?_ | refine s_val rfl rfl rfl (r_pick0 rfl rfl zTr rfl) ?_)
      | (refine s_k 25 rfl ?_; first | refine s_val rfl rfl rfl (r_ixO tb rfl rfl rfl rfl hltj) ?_ | refine s_val rfl rfl rfl (r_ixN tb rfl rfl rfl rfl (by omega)) ?_ | refine s_val rfl rfl rfl (r_ixA tb rfl rfl rfl rfl (by omega) (by omega)) ?_ | refine s_val rfl rfl rfl (r_ixO tb rfl rfl rfl rfl (by omega)) ?_)
      | (refine s_k 4 rfl ?_; first | refine s_boxA rfl rfl rfl rfl rfl fun blk => ?_ | refine s_box1 rfl rfl rfl rfl rfl rfl fun blk => ?_)
      | (refine s_k 9 rfl ?_; (first | refine s_st1 tb rfl rfl rfl rfl rfl rfl rfl rfl ?_ | refine s_stA tb rfl rfl rfl rfl (by first | rfl | assumption | (apply Pv.size; assumption)) rfl rfl ?_); (first | refine' st0 ?qs ?_ | refine' st1 ?qs ?_ | refine' st2 ?qs ?_ | refine' st3 ?qs ?_ | refine' st4 ?qs ?_ | refine' st5 ?qs ?_ | refine' st6 ?qs ?_ | refine' st7 ?qs ?_ | refine' st8 ?qs ?_ | refine' st9 ?qs ?_ | refine' st10 ?qs ?_ | refine' st11 ?qs ?_); (case qs => (first | exact set_one (by omega) rfl | exact zSet)); (first | (refine absA1 (GB (fun j => fj j || decide (ci d = j))) hmk fun c3 hq3 => ?_) | skip))
      | (refine s_k 36 rfl ?_; first | refine s_appM (pre := [_, _, _]) (news := d.cells) rfl uSpotS iSpot rfl (by omega) hA12 (by simp) (fun w hL => news_blk (hL.at_ m0) rfl) rfl rfl rfl (by simp [Sp.cells, Value.oneCell']) (by unfold maxLen; omega) (by omega) rfl rfl rfl fun g12' cap12' cur12' hA12' => ?_ | refine s_val rfl rfl rfl (r_len tb rfl rfl rfl) ?_)
      | (refine s_k 12 rfl ?_; refine s_val rfl rfl rfl (r_nil rfl rfl) ?_)
      | (refine s_k 6 rfl ?_; refine s_bsl rfl rfl (fun w => slSpot1 _ _ w) rfl rfl rfl fun blk => ?_)
      | refine s_nil ?_)
            | (refine c_g ?_; first | refine c_seq ?_ | refine c_region ?_ | (refine c_gc ?_; first | refine c_cond1 rfl zTr ?_ | refine c_cond0 rfl zTr ?_ | refine z_condd1 rfl ?_ | refine z_condd0 rfl ?_ | refine z_conddn1 rfl ?_ | refine z_conddn0 rfl ?_ | refine c_condd rfl (fun hc => ?_) (fun hc => ?_) | refine c_conddn rfl (fun hc => ?_) (fun hc => ?_) | refine c_condn rfl (fun hc => ?_) (fun hc => ?_) | refine c_cond rfl (fun hc => ?_) (fun hc => ?_)) | refine c_block ?_ | refine c_skip ?_ | refine c_exit ?_ | refine c_ret ?_)
            | (refine e_g ?_; first | refine e_then ?_ | refine e_blkn ?_ | refine e_thenx ?_ | refine e_thenr ?_ | refine e_blkr ?_ | refine e_blkx ?_ | refine e_blky rfl ?_)
            | (refine x_g ?_; first
      | (refine x_gd rfl ?_; first | refine x_gd1 rfl rfl zTr ?_ | (refine x_gd0 rfl rfl rfl zTr ?hp ?_; (case hp => exact rfl)))
      | (refine x_k 0 rfl ?_; (refine x_val rfl rfl rfl (r_move rfl rfl) ?hp ?_; (case hp => exact rfl)))
      | (refine x_k 23 rfl ?_; first | (refine x_val rfl rfl rfl (r_field tb rfl rfl rfl) ?hp ?_; (case hp => exact rfl)) | (refine x_val rfl rfl rfl (r_fieldS tb rfl rfl rfl) ?hp ?_; (case hp => exact rfl)))
      | (refine x_k 8 rfl ?_; first | (refine x_val rfl rfl rfl (r_ldN tb rfl rfl m0 rfl hspy.1 hspy.2) ?hp ?_; (case hp => exact rfl)) | (refine' x_val rfl rfl rfl (r_ldv rfl rfl ?qm ?qv) ?hp ?_; (case qm => (exact zMm)); (case qv => (first | exact ldvL tb rfl rfl | exact ldv1 tb rfl (by assumption) | exact ldv1 tb rfl (hat) | exact ldv1 tb rfl (hxe) | exact ldv1 tb rfl (hye) | exact zLd)); (case hp => exact rfl)) | (refine' x_val rfl rfl rfl (r_ldo rfl rfl ?qw (by simp) ?qv) ?hp ?_; (case qw => assumption); (case qv => (first | exact ldvL tb rfl rfl | exact ldv1 tb rfl (by assumption) | exact ldv1 tb rfl (hat) | exact ldv1 tb rfl (hxe) | exact ldv1 tb rfl (hye) | exact zLd)); (case hp => exact rfl)))
      | (refine x_k 1 rfl ?_; (refine x_val rfl rfl rfl (r_assign rfl rfl) ?hp ?_; (case hp => exact rfl)))
      | (refine x_k 13 rfl ?_; first | (refine x_val rfl rfl rfl (r_lss rfl rfl rfl) ?hp ?_; (case hp => exact rfl)) | (refine x_val rfl rfl rfl (r_eql rfl rfl rfl) ?hp ?_; (case hp => exact rfl)) | (refine x_val rfl rfl rfl (r_add rfl rfl rfl (wrap_in (by simp only [lo, hi]; omega))) ?hp ?_; (case hp => exact rfl)))
      | (refine x_k 14 rfl ?_; (refine x_val rfl rfl rfl (r_not rfl rfl) ?hp ?_; (case hp => exact rfl)))
      | (refine x_k 2 rfl ?_; first | (refine x_val rfl rfl rfl (r_pick1 rfl rfl zTr rfl) ?hp ?_; (case hp => exact rfl)) | (refine x_val rfl rfl rfl (r_pick0 rfl rfl zTr rfl) ?hp ?_; (case hp => exact rfl)))
      | (refine x_k 25 rfl ?_; first | (refine x_val rfl rfl rfl (r_ixO tb rfl rfl rfl rfl hltj) ?hp ?_; (case hp => exact rfl)) | (refine x_val rfl rfl rfl (r_ixN tb rfl rfl rfl rfl (by omega)) ?hp ?_; (case hp => exact rfl)) | (refine x_val rfl rfl rfl (r_ixA tb rfl rfl rfl rfl (by omega) (by omega)) ?hp ?_; (case hp => exact rfl)) | (refine x_val rfl rfl rfl (r_ixO tb rfl rfl rfl rfl (by omega)) ?hp ?_; (case hp => exact rfl)))
      | (refine x_k 4 rfl ?_; (refine x_boxA rfl rfl rfl rfl rfl ?hp (fun blk => ?_); (case hp => exact rfl)))
      | (refine x_k 9 rfl ?_; first | (refine' x_putA0 tb rfl rfl rfl rfl (by first | rfl | assumption | (apply Pv.size; assumption)) ?qs (by first | rfl | assumption | (apply Pv.size; assumption)) rfl rfl ?hp ?_; (case qs => (first | exact set_one (by omega) rfl | exact zSet)); (case hp => exact rfl)) | (refine' x_putA1 tb rfl rfl rfl rfl (by first | rfl | assumption | (apply Pv.size; assumption)) ?qs (by first | rfl | assumption | (apply Pv.size; assumption)) rfl rfl ?hp ?_; (case qs => (first | exact set_one (by omega) rfl | exact zSet)); (case hp => exact rfl)) | (refine' x_putA2 tb rfl rfl rfl rfl (by first | rfl | assumption | (apply Pv.size; assumption)) ?qs (by first | rfl | assumption | (apply Pv.size; assumption)) rfl rfl ?hp ?_; (case qs => (first | exact set_one (by omega) rfl | exact zSet)); (case hp => exact rfl)))
      | (refine x_k 36 rfl ?_; (refine x_val rfl rfl rfl (r_len tb rfl rfl rfl) ?hp ?_; (case hp => exact rfl)))
      | (refine x_k 12 rfl ?_; (refine x_val rfl rfl rfl (r_nil rfl rfl) ?hp ?_; (case hp => exact rfl)))
      | refine x_nil0 ?_
      | refine x_nil ?_)
            | (refine' c_drawX (id := 17) [(Sum.inl _ : Calm.Plan), (Sum.inl _ : Calm.Plan), (Sum.inl _ : Calm.Plan), (Sum.inl _ : Calm.Plan), (Sum.inl _ : Calm.Plan), (Sum.inl _ : Calm.Plan), (Sum.inl _ : Calm.Plan), (Sum.inl _ : Calm.Plan), (Sum.inl _ : Calm.Plan), (Sum.inl _ : Calm.Plan), (Sum.inl _ : Calm.Plan), (Sum.inl _ : Calm.Plan), (Sum.inl _ : Calm.Plan), (Sum.inl _ : Calm.Plan)] (by kernel_rfl) (by kernel_rfl) (by kernel_rfl) ?_)
            | (refine' c_drawXT (id := 18) 12 [(Sum.inl _ : Calm.Plan), (Sum.inl _ : Calm.Plan), (Sum.inl _ : Calm.Plan), (Sum.inl _ : Calm.Plan), (Sum.inl _ : Calm.Plan), (Sum.inl _ : Calm.Plan), (Sum.inl _ : Calm.Plan), (Sum.inl _ : Calm.Plan), (Sum.inl _ : Calm.Plan), (Sum.inl _ : Calm.Plan), (Sum.inl _ : Calm.Plan), (Sum.inl _ : Calm.Plan)] (by kernel_rfl) (by kernel_rfl) (by kernel_rfl) ?_)
            | refine e_tail ?_
            | (refine e_dropO (by simp) (e_round (j + 1, g12', cap12', cur12', c3) (by simp; omega) ⟨by simp; omega, by simp only [hqs']; rw [flS_snoc]; simpa [Sp.cells] using hA12', by simp only [hqs']; exact hq3⟩ ?_ rfl); (repeat' (first | exact sub_nil | refine sub_cons rfl ?_ | refine sub_cons' rfl (by simp [hqs']) ?_))))
        · rw [hfd] at hat
          have hqs' : (NB.take (j + 1)).foldl adN (DR, met) = (mj, fj) := by rw [hqs]; unfold adN; rw [if_pos hfd]
          repeat' (first
            | (refine s_g ?_; first
      | (refine s_gd rfl ?_; first | refine s_gd1 rfl rfl zTr ?_ | refine s_gd0 rfl rfl rfl zTr ?_ | refine s_gd00 rfl rfl zTr ?_ | refine s_gp1 rfl rfl rfl (fun hc => ?_) (fun hc => ?_) | refine s_gp0 rfl rfl rfl (fun hc => ?_) (fun hc => ?_) | refine s_gnp1 rfl rfl rfl (fun hc => ?_) (fun hc => ?_) | refine s_gnp0 rfl rfl rfl (fun hc => ?_) (fun hc => ?_) | refine s_gb1 rfl rfl rfl (fun hc => ?_) (fun hc => ?_) | refine s_gb0 rfl rfl rfl (fun hc => ?_) (fun hc => ?_) | refine s_gnb1 rfl rfl rfl (fun hc => ?_) (fun hc => ?_) | refine s_gnb0 rfl rfl rfl (fun hc => ?_) (fun hc => ?_))
      | (refine s_k 0 rfl ?_; refine s_val rfl rfl rfl (r_move rfl rfl) ?_)
      | (refine s_k 23 rfl ?_; first | refine s_val rfl rfl rfl (r_field tb rfl rfl rfl) ?_ | refine s_val rfl rfl rfl (r_fieldS tb rfl rfl rfl) ?_)
      | (refine s_k 8 rfl ?_; first | refine s_val rfl rfl rfl (r_ldN tb rfl rfl m0 rfl hspy.1 hspy.2) ?_ | (refine' s_val rfl rfl rfl (r_ldv rfl rfl ?qm ?qv) ?_; (case qm => (exact zMm)); (case qv => (first | exact ldvL tb rfl rfl | exact ldv1 tb rfl (by assumption) | exact ldv1 tb rfl (hat) | exact ldv1 tb rfl (hxe) | exact ldv1 tb rfl (hye) | exact zLd))) | (refine' s_val rfl rfl rfl (r_ldo rfl rfl ?qw (by simp) ?qv) ?_; (case qw => assumption); (case qv => (first | exact ldvL tb rfl rfl | exact ldv1 tb rfl (by assumption) | exact ldv1 tb rfl (hat) | exact ldv1 tb rfl (hxe) | exact ldv1 tb rfl (hye) | exact zLd))))
      | (refine s_k 1 rfl ?_; refine s_val rfl rfl rfl (r_assign rfl rfl) ?_)
      | (refine s_k 13 rfl ?_; first | refine s_val rfl rfl rfl (r_lss rfl rfl rfl) ?_ | refine s_val rfl rfl rfl (r_eql rfl rfl rfl) ?_ | refine s_val rfl rfl rfl (r_add rfl rfl rfl (wrap_in (by simp only [lo, hi]; omega))) ?_)
      | (refine s_k 14 rfl ?_; refine s_val rfl rfl rfl (r_not rfl rfl) ?_)
      | (refine s_k 2 rfl ?_; first | refine s_val rfl rfl rfl (r_pick1 rfl rfl zTr rfl) ?_ | refine s_val rfl rfl rfl (r_pick0 rfl rfl zTr rfl) ?_)
      | (refine s_k 25 rfl ?_; first | refine s_val rfl rfl rfl (r_ixO tb rfl rfl rfl rfl hltj) ?_ | refine s_val rfl rfl rfl (r_ixN tb rfl rfl rfl rfl (by omega)) ?_ | refine s_val rfl rfl rfl (r_ixA tb rfl rfl rfl rfl (by omega) (by omega)) ?_ | refine s_val rfl rfl rfl (r_ixO tb rfl rfl rfl rfl (by omega)) ?_)
      | (refine s_k 4 rfl ?_; first | refine s_boxA rfl rfl rfl rfl rfl fun blk => ?_ | refine s_box1 rfl rfl rfl rfl rfl rfl fun blk => ?_)
      | (refine s_k 9 rfl ?_; (first | refine s_st1 tb rfl rfl rfl rfl rfl rfl rfl rfl ?_ | refine s_stA tb rfl rfl rfl rfl (by first | rfl | assumption | (apply Pv.size; assumption)) rfl rfl ?_); (first | refine' st0 ?qs ?_ | refine' st1 ?qs ?_ | refine' st2 ?qs ?_ | refine' st3 ?qs ?_ | refine' st4 ?qs ?_ | refine' st5 ?qs ?_ | refine' st6 ?qs ?_ | refine' st7 ?qs ?_ | refine' st8 ?qs ?_ | refine' st9 ?qs ?_ | refine' st10 ?qs ?_ | refine' st11 ?qs ?_); (case qs => (first | exact zSet)))
      | (refine s_k 36 rfl ?_; refine s_val rfl rfl rfl (r_len tb rfl rfl rfl) ?_)
      | (refine s_k 12 rfl ?_; refine s_val rfl rfl rfl (r_nil rfl rfl) ?_)
      | refine s_nil ?_)
            | (refine c_g ?_; first | refine c_seq ?_ | refine c_region ?_ | (refine c_gc ?_; first | refine c_cond1 rfl zTr ?_ | refine c_cond0 rfl zTr ?_ | refine z_condd1 rfl ?_ | refine z_condd0 rfl ?_ | refine z_conddn1 rfl ?_ | refine z_conddn0 rfl ?_ | refine c_condd rfl (fun hc => ?_) (fun hc => ?_) | refine c_conddn rfl (fun hc => ?_) (fun hc => ?_) | refine c_condn rfl (fun hc => ?_) (fun hc => ?_) | refine c_cond rfl (fun hc => ?_) (fun hc => ?_)) | refine c_block ?_ | refine c_skip ?_ | refine c_exit ?_ | refine c_ret ?_)
            | (refine e_g ?_; first | refine e_then ?_ | refine e_blkn ?_ | refine e_thenx ?_ | refine e_thenr ?_ | refine e_blkr ?_ | refine e_blkx ?_ | refine e_blky rfl ?_)
            | (refine x_g ?_; first
      | (refine x_gd rfl ?_; first | refine x_gd1 rfl rfl zTr ?_ | (refine x_gd0 rfl rfl rfl zTr ?hp ?_; (case hp => exact rfl)))
      | (refine x_k 0 rfl ?_; (refine x_val rfl rfl rfl (r_move rfl rfl) ?hp ?_; (case hp => exact rfl)))
      | (refine x_k 23 rfl ?_; first | (refine x_val rfl rfl rfl (r_field tb rfl rfl rfl) ?hp ?_; (case hp => exact rfl)) | (refine x_val rfl rfl rfl (r_fieldS tb rfl rfl rfl) ?hp ?_; (case hp => exact rfl)))
      | (refine x_k 8 rfl ?_; first | (refine x_val rfl rfl rfl (r_ldN tb rfl rfl m0 rfl hspy.1 hspy.2) ?hp ?_; (case hp => exact rfl)) | (refine' x_val rfl rfl rfl (r_ldv rfl rfl ?qm ?qv) ?hp ?_; (case qm => (exact zMm)); (case qv => (first | exact ldvL tb rfl rfl | exact ldv1 tb rfl (by assumption) | exact ldv1 tb rfl (hat) | exact ldv1 tb rfl (hxe) | exact ldv1 tb rfl (hye) | exact zLd)); (case hp => exact rfl)) | (refine' x_val rfl rfl rfl (r_ldo rfl rfl ?qw (by simp) ?qv) ?hp ?_; (case qw => assumption); (case qv => (first | exact ldvL tb rfl rfl | exact ldv1 tb rfl (by assumption) | exact ldv1 tb rfl (hat) | exact ldv1 tb rfl (hxe) | exact ldv1 tb rfl (hye) | exact zLd)); (case hp => exact rfl)))
      | (refine x_k 1 rfl ?_; (refine x_val rfl rfl rfl (r_assign rfl rfl) ?hp ?_; (case hp => exact rfl)))
      | (refine x_k 13 rfl ?_; first | (refine x_val rfl rfl rfl (r_lss rfl rfl rfl) ?hp ?_; (case hp => exact rfl)) | (refine x_val rfl rfl rfl (r_eql rfl rfl rfl) ?hp ?_; (case hp => exact rfl)) | (refine x_val rfl rfl rfl (r_add rfl rfl rfl (wrap_in (by simp only [lo, hi]; omega))) ?hp ?_; (case hp => exact rfl)))
      | (refine x_k 14 rfl ?_; (refine x_val rfl rfl rfl (r_not rfl rfl) ?hp ?_; (case hp => exact rfl)))
      | (refine x_k 2 rfl ?_; first | (refine x_val rfl rfl rfl (r_pick1 rfl rfl zTr rfl) ?hp ?_; (case hp => exact rfl)) | (refine x_val rfl rfl rfl (r_pick0 rfl rfl zTr rfl) ?hp ?_; (case hp => exact rfl)))
      | (refine x_k 25 rfl ?_; first | (refine x_val rfl rfl rfl (r_ixO tb rfl rfl rfl rfl hltj) ?hp ?_; (case hp => exact rfl)) | (refine x_val rfl rfl rfl (r_ixN tb rfl rfl rfl rfl (by omega)) ?hp ?_; (case hp => exact rfl)) | (refine x_val rfl rfl rfl (r_ixA tb rfl rfl rfl rfl (by omega) (by omega)) ?hp ?_; (case hp => exact rfl)) | (refine x_val rfl rfl rfl (r_ixO tb rfl rfl rfl rfl (by omega)) ?hp ?_; (case hp => exact rfl)))
      | (refine x_k 4 rfl ?_; (refine x_boxA rfl rfl rfl rfl rfl ?hp (fun blk => ?_); (case hp => exact rfl)))
      | (refine x_k 9 rfl ?_; first | (refine' x_putA0 tb rfl rfl rfl rfl (by first | rfl | assumption | (apply Pv.size; assumption)) ?qs (by first | rfl | assumption | (apply Pv.size; assumption)) rfl rfl ?hp ?_; (case qs => (first | exact zSet)); (case hp => exact rfl)) | (refine' x_putA1 tb rfl rfl rfl rfl (by first | rfl | assumption | (apply Pv.size; assumption)) ?qs (by first | rfl | assumption | (apply Pv.size; assumption)) rfl rfl ?hp ?_; (case qs => (first | exact zSet)); (case hp => exact rfl)) | (refine' x_putA2 tb rfl rfl rfl rfl (by first | rfl | assumption | (apply Pv.size; assumption)) ?qs (by first | rfl | assumption | (apply Pv.size; assumption)) rfl rfl ?hp ?_; (case qs => (first | exact zSet)); (case hp => exact rfl)))
      | (refine x_k 36 rfl ?_; (refine x_val rfl rfl rfl (r_len tb rfl rfl rfl) ?hp ?_; (case hp => exact rfl)))
      | (refine x_k 12 rfl ?_; (refine x_val rfl rfl rfl (r_nil rfl rfl) ?hp ?_; (case hp => exact rfl)))
      | refine x_nil0 ?_
      | refine x_nil ?_)
            | (refine' c_drawX (id := 17) [(Sum.inl _ : Calm.Plan), (Sum.inl _ : Calm.Plan), (Sum.inl _ : Calm.Plan), (Sum.inl _ : Calm.Plan), (Sum.inl _ : Calm.Plan), (Sum.inl _ : Calm.Plan), (Sum.inl _ : Calm.Plan), (Sum.inl _ : Calm.Plan), (Sum.inl _ : Calm.Plan), (Sum.inl _ : Calm.Plan), (Sum.inl _ : Calm.Plan), (Sum.inl _ : Calm.Plan), (Sum.inl _ : Calm.Plan), (Sum.inl _ : Calm.Plan)] (by kernel_rfl) (by kernel_rfl) (by kernel_rfl) ?_)
            | (refine e_round (j + 1, g12, cap12, cur12, cn) (by simp; omega) ⟨by simp; omega, by simp only [hqs']; exact hA12, by simp only [hqs']; exact hGn⟩ ?_ rfl; (repeat' (first | exact sub_nil | refine sub_cons rfl ?_ | refine sub_cons' rfl (by simp [hqs']) ?_))))
      · obtain rfl : j = NB.length := by omega
        rw [hqN] at hA12 hGn ⊢
        have hns := hGn.size
        have hns2 := hGn
        repeat' (first
          | (refine s_g ?_; first
      | (refine s_gd rfl ?_; first | refine s_gd1 rfl rfl zTr ?_ | refine s_gd0 rfl rfl rfl zTr ?_ | refine s_gd00 rfl rfl zTr ?_ | refine s_gp1 rfl rfl rfl (fun hc => ?_) (fun hc => ?_) | refine s_gp0 rfl rfl rfl (fun hc => ?_) (fun hc => ?_) | refine s_gnp1 rfl rfl rfl (fun hc => ?_) (fun hc => ?_) | refine s_gnp0 rfl rfl rfl (fun hc => ?_) (fun hc => ?_) | refine s_gb1 rfl rfl rfl (fun hc => ?_) (fun hc => ?_) | refine s_gb0 rfl rfl rfl (fun hc => ?_) (fun hc => ?_) | refine s_gnb1 rfl rfl rfl (fun hc => ?_) (fun hc => ?_) | refine s_gnb0 rfl rfl rfl (fun hc => ?_) (fun hc => ?_))
      | (refine s_k 0 rfl ?_; refine s_val rfl rfl rfl (r_move rfl rfl) ?_)
      | (refine s_k 23 rfl ?_; first | refine s_val rfl rfl rfl (r_field tb rfl rfl rfl) ?_ | refine s_val rfl rfl rfl (r_fieldS tb rfl rfl rfl) ?_)
      | (refine s_k 8 rfl ?_; first | (refine' s_val rfl rfl rfl (r_ldv rfl rfl ?qm ?qv) ?_; (case qm => (exact zMm)); (case qv => (exact zLe))) | (refine' s_val rfl rfl rfl (r_ldo rfl rfl ?qw (by simp) ?qv) ?_; (case qw => assumption); (case qv => (exact zLe))))
      | (refine s_k 1 rfl ?_; refine s_val rfl rfl rfl (r_assign rfl rfl) ?_)
      | (refine s_k 13 rfl ?_; first | refine s_val rfl rfl rfl (r_lss rfl rfl rfl) ?_ | refine s_val rfl rfl rfl (r_eql rfl rfl rfl) ?_ | refine s_val rfl rfl rfl (r_add rfl rfl rfl (wrap_in (by simp only [lo, hi]; omega))) ?_)
      | (refine s_k 14 rfl ?_; refine s_val rfl rfl rfl (r_not rfl rfl) ?_)
      | (refine s_k 2 rfl ?_; first | refine s_val rfl rfl rfl (r_pick1 rfl rfl zTr rfl) ?_ | refine s_val rfl rfl rfl (r_pick0 rfl rfl zTr rfl) ?_)
      | (refine s_k 25 rfl ?_; first | refine s_val rfl rfl rfl (r_ixN tb rfl rfl rfl rfl (by omega)) ?_ | refine s_val rfl rfl rfl (r_ixA tb rfl rfl rfl rfl (by omega) (by omega)) ?_ | refine s_val rfl rfl rfl (r_ixO tb rfl rfl rfl rfl (by omega)) ?_)
      | (refine s_k 4 rfl ?_; first | refine s_boxA rfl rfl rfl rfl rfl fun blk => ?_ | refine s_box1 rfl rfl rfl rfl rfl rfl fun blk => ?_)
      | (refine s_k 9 rfl ?_; (first | refine s_st1 tb rfl rfl rfl rfl rfl rfl rfl rfl ?_ | refine s_stA tb rfl rfl rfl rfl (by first | rfl | assumption | (apply Pv.size; assumption)) rfl rfl ?_); (first | refine' st0 ?qs ?_ | refine' st1 ?qs ?_ | refine' st2 ?qs ?_ | refine' st3 ?qs ?_ | refine' st4 ?qs ?_ | refine' st5 ?qs ?_ | refine' st6 ?qs ?_ | refine' st7 ?qs ?_ | refine' st8 ?qs ?_ | refine' st9 ?qs ?_ | refine' st10 ?qs ?_ | refine' st11 ?qs ?_); (case qs => (first | exact zSet)))
      | (refine s_k 36 rfl ?_; refine s_val rfl rfl rfl (r_len tb rfl rfl rfl) ?_)
      | (refine s_k 12 rfl ?_; refine s_val rfl rfl rfl (r_nil rfl rfl) ?_)
      | refine s_nil ?_)
          | (refine c_g ?_; first | refine c_seq ?_ | refine c_region ?_ | (refine c_gc ?_; first | refine c_cond1 rfl zTr ?_ | refine c_cond0 rfl zTr ?_ | refine z_condd1 rfl ?_ | refine z_condd0 rfl ?_ | refine z_conddn1 rfl ?_ | refine z_conddn0 rfl ?_ | refine c_condd rfl (fun hc => ?_) (fun hc => ?_) | refine c_conddn rfl (fun hc => ?_) (fun hc => ?_) | refine c_condn rfl (fun hc => ?_) (fun hc => ?_) | refine c_cond rfl (fun hc => ?_) (fun hc => ?_)) | refine c_block ?_ | refine c_skip ?_ | refine c_exit ?_ | refine c_ret ?_)
          | (refine e_g ?_; first | refine e_then ?_ | refine e_blkn ?_ | refine e_thenx ?_ | refine e_thenr ?_ | refine e_blkr ?_ | refine e_blkx ?_ | refine e_blky rfl ?_))
        refine' c_drawH (id := 20) [false, true, false, true, false, false, false, false, true, true, false, false, true] [(1, 8), (3, 8)] [(gw, 88, srC gp k v1 (Qf i).2)] ((gb, 52, curb) :: (b13, 90, cn) :: (g12, 52, cur12) :: (b7, 90, cm) :: R) [(Sum.inl _ : CalmH.Plan CalmH.St), (CalmH.indP _ : CalmH.Plan CalmH.St), (Sum.inl _ : CalmH.Plan CalmH.St), (CalmH.indP _ : CalmH.Plan CalmH.St), (Sum.inl _ : CalmH.Plan CalmH.St), (Sum.inl _ : CalmH.Plan CalmH.St), (Sum.inl _ : CalmH.Plan CalmH.St), (Sum.inl _ : CalmH.Plan CalmH.St), (CalmH.mkP _ _ _ : CalmH.Plan CalmH.St), (CalmH.effP _ : CalmH.Plan CalmH.St), (Sum.inl _ : CalmH.Plan CalmH.St), (Sum.inl _ : CalmH.Plan CalmH.St), (CalmH.effP _ : CalmH.Plan CalmH.St)] (by kernel_rfl) (by kernel_rfl) (by kernel_rfl) (by simp only [CalmH.Agree, CalmH.indP, CalmH.mkP, CalmH.effP, and_self, true_and, and_true]) ⟨CalmH.comm_im, CalmH.comm_im, trivial⟩ (List.perm_middle (l₁ := [_, _, _, _])) ?zmain
        case zmain =>
          refine' zh_val rfl rfl rfl ?hr ?hp ?_
          case hr => exact fun M N => r_move rfl rfl
          case hp => exact rfl
          refine' zh_bsl rfl rfl (fun w => slSpot0 w) rfl rfl rfl ?hp fun g133 => ?_
          case hp => exact rfl
          refine' zh_val rfl rfl rfl ?hr ?hp ?_
          case hr => exact fun M N => r_move rfl rfl
          case hp => exact rfl
          refine' zh_app rfl uSpotS iSpot rfl (by omega) (Ap.nil 2) (by simp) (fun M w hw => (hSl.at_ hw).news) (flS_len l) rfl rfl (flS_one l) (by unfold maxLen; omega) (by omega) rfl rfl rfl ?hp fun g135 cap135 cur135 hA135 => ?_
          case hp => exact rfl
          refine' zh_val rfl rfl rfl ?hr ?hp ?_
          case hr => exact fun M N => r_move rfl rfl
          case hp => exact rfl
          refine' zh_val rfl rfl rfl ?hr ?hp ?_
          case hr => exact fun M N => r_move rfl rfl
          case hp => exact rfl
          refine' zh_val rfl rfl rfl ?hr ?hp ?_
          case hr => exact fun M N => r_ixS (i := i) tb rfl hSn rfl rfl rfl (by simp) hka
          case hp => exact rfl
          refine' zh_val rfl rfl rfl ?hr ?hp ?_
          case hr => exact fun M N => r_ldS (i := i) tb rfl hSn rfl hxa rfl
          case hp => exact rfl
          refine' zh_mk rfl rfl (fun w => slSpot1 _ _ w) rfl rfl rfl ?hp fun g140 => ?_
          case hp => exact rfl
          refine' zh_app2 (news := c.cells) rfl uSpotS iSpot rfl (by omega) hA135 (by simp) (fun w hw => news_blk (hw.at_ m0) rfl) rfl rfl rfl (by simp [Sp.cells, Value.oneCell']) (by unfold maxLen; omega) (by omega) rfl rfl rfl ?hp fun g141 cap141 cur141 hA141 => ?_
          case hp => exact rfl
          refine' zh_val rfl rfl rfl ?hr ?hp ?_
          case hr => exact fun M N => r_move rfl rfl
          case hp => exact rfl
          refine' zh_val rfl rfl rfl ?hr ?hp ?_
          case hr => exact fun M N => r_ldv rfl rfl (List.mem_append_right _ (List.mem_append_right _ m1)) (ldvW tb rfl hns)
          case hp => exact rfl
          refine' zh_write (fun r : Value × List (Nat × TypeId × Array Value) => (r.1 = v1 ∧ (Qf (i + 1)).1 = (Qf i).1 ∧ r.2 = []) ∨ ∃ g cap cur, r.2 = [(g, 52, cur)] ∧ r.1 = .slice (some ⟨g, 0, none⟩) (Qf (i + 1)).1.length cap ∧ Ap 2 (Qf (i + 1)).1.length cap cur (flS (Qf (i + 1)).1)) (fun _ => .tuple #[]) (fun _ r => ([], (gw, 88, srC gp k r.1 (Qf (i + 1)).2) :: r.2)) Try.func48 (by kernel_rfl) rfl rfl rfl rfl rfl rfl ?hc ?hex ?hp ?_
          case hp => exact rfl
          case hex =>
            rcases hbl2 with h | h
            · exact ⟨(.slice (some ⟨0, 0, none⟩) (Qf (i + 1)).1.length (Qf (i + 1)).1.length, [(0, 52, (flS (Qf (i + 1)).1).toArray)]), .inr ⟨0, _, _, rfl, rfl, ⟨flS_len _, Nat.le_refl _, by rw [h]; simp, by simp [flS_len], by simp [← flS_len]⟩⟩⟩
            · exact ⟨(.slice (some ⟨0, 0, none⟩) (Qf (i + 1)).1.length (Qf (i + 1)).1.length, [(0, 52, (flS (Qf (i + 1)).1).toArray)]), .inr ⟨0, _, _, rfl, rfl, ⟨flS_len _, Nat.le_refl _, by rw [h]; unfold maxLen; omega, by simp [flS_len], by simp [← flS_len]⟩⟩⟩
          case hc =>
            intro w1 hw
            have e141 : 0 + l.length + 1 = (l ++ [c]).length := by simp
            rw [e141] at hA141 ⊢
            have hA141' : Ap 2 (l ++ [c]).length cap141 cur141 (flS (l ++ [c])) := by rw [flS_snoc]; simpa [Sp.cells, flS] using hA141
            have hnO := fun (x : Nat × TypeId × Array Value) pre post (h : Kn [gw] w w1 (pre ++ x :: post)) (hm : ∃ y ∈ pre ++ post, y.1 = gw) => notO h (fun k hk => by rw [List.mem_singleton.1 hk]; exact hm)
            have n141 := hnO (g141, 52, cur141) [(g140, 52, #[.int .i8 c.x, .int .i8 c.y])] _ hw (by simp)
            have n12 := hnO (g12, 52, cur12) [(g140, 52, #[.int .i8 c.x, .int .i8 c.y]), (g141, 52, cur141), (gw, 88, srC gp k v1 (Qf i).2), (gb, 52, curb), (b13, 90, cn)] _ hw (by simp)
            have hB1 := hBL.at_ hw (fun y hy => by simp [hy]) (x := (gw, 88, srC gp k v1 (Qf i).2)) (by simp) rfl (fun y hy e => by
              have hn := hw.nodup
              subst e
              simp only [List.cons_append, List.nil_append, List.map_cons, List.nodup_cons] at hn
              exact hn.2.2.1 (by simp only [List.mem_cons, List.mem_map]; exact .inr (.inr (.inr (.inr ⟨_, hy, rfl⟩)))))
            have h := IH (l ++ [c]) _ _ g141 cap141 g12 cap12 cur141 cur12 cn v1 (Qf i).1 (Qf i).2 w1 (Kn.old hw hg (by simpa using hpw)) (hw.at_ m2) hA141' (hw.at_ m1) (by simpa using n141) hA12 (hw.at_ m5) (by simpa using n12) hGn hB1 hbl1 (by simp; omega) hIs
            refine h.mono fun e w2 ⟨he, v', hU, hcs⟩ => ?_
            have hq : bstV p ((Qf i).1, (Qf i).2) (visN p n (l ++ [c]) (NB.foldl adN (DR, met)).1 (NB.foldl adN (DR, met)).2) = Qf (i + 1) := hQ1.symm
            rw [hq] at hU hcs
            have hK2 := Kn.tailO (Kn.upd (i := 2) hw rfl hU) (by simp)
            have hK3 : Kn [gw] w w2 ((gw, 88, srC gp k v' (Qf (i + 1)).2) :: ((gb, 52, curb) :: (b13, 90, cn) :: (g12, 52, cur12) :: (b7, 90, cm) :: R)) := Kn.tailO hK2 (by simp)
            rcases hcs with ⟨h1, h2⟩ | ⟨g, cap, cur, hge, h1, h2, h3⟩
            · subst h1
              exact ⟨(v', []), .inl ⟨rfl, h2, rfl⟩, he, hK3⟩
            · refine ⟨(v', [(g, 52, cur)]), .inr ⟨g, cap, cur, rfl, h1, h2⟩, he, ?_⟩
              have hK4 := Kn.add hK3 (g := g) (Nat.le_trans hw.size hge) (fun x hx e => by
                have hx1 : ∃ y ∈ [(g140, 52, #[.int .i8 c.x, .int .i8 c.y]), (g141, 52, cur141), (gw, 88, srC gp k v1 (Qf i).2)] ++ ((gb, 52, curb) :: (b13, 90, cn) :: (g12, 52, cur12) :: (b7, 90, cm) :: R), y.1 = x.1 := by
                  rcases List.mem_cons.1 hx with rfl | hx
                  · exact ⟨_, List.mem_cons_of_mem _ (List.mem_cons_of_mem _ List.mem_cons_self), rfl⟩
                  · exact ⟨x, List.mem_append_right _ hx, rfl⟩
                obtain ⟨y, hy, ey⟩ := hx1
                have := (Array.getElem?_eq_some_iff.1 (hw.has y hy)).1
                omega) h3
              exact Kn.perm hK4 (List.Perm.swap _ _ _)
          rintro ⟨v2, R2⟩ hr
          simp only at hr ⊢
          refine zh_nil ?_
          rcases hr with ⟨rfl, h2, rfl⟩ | ⟨g, cap, cur, rfl, h1, h2⟩
          · repeat' (first
              | (refine s_g ?_; first
      | (refine s_gd rfl ?_; first | refine s_gd1 rfl rfl zTr ?_ | refine s_gd0 rfl rfl rfl zTr ?_ | refine s_gd00 rfl rfl zTr ?_ | refine s_gp1 rfl rfl rfl (fun hc => ?_) (fun hc => ?_) | refine s_gp0 rfl rfl rfl (fun hc => ?_) (fun hc => ?_) | refine s_gnp1 rfl rfl rfl (fun hc => ?_) (fun hc => ?_) | refine s_gnp0 rfl rfl rfl (fun hc => ?_) (fun hc => ?_) | refine s_gb1 rfl rfl rfl (fun hc => ?_) (fun hc => ?_) | refine s_gb0 rfl rfl rfl (fun hc => ?_) (fun hc => ?_) | refine s_gnb1 rfl rfl rfl (fun hc => ?_) (fun hc => ?_) | refine s_gnb0 rfl rfl rfl (fun hc => ?_) (fun hc => ?_))
      | (refine s_k 0 rfl ?_; refine s_val rfl rfl rfl (r_move rfl rfl) ?_)
      | (refine s_k 23 rfl ?_; first | refine s_val rfl rfl rfl (r_field tb rfl rfl rfl) ?_ | refine s_val rfl rfl rfl (r_fieldS tb rfl rfl rfl) ?_)
      | (refine s_k 8 rfl ?_; first | (refine' s_val rfl rfl rfl (r_ldv rfl rfl ?qm ?qv) ?_; (case qm => (exact zMm)); (case qv => (exact zLe))) | (refine' s_val rfl rfl rfl (r_ldo rfl rfl ?qw (by simp) ?qv) ?_; (case qw => assumption); (case qv => (exact zLe))))
      | (refine s_k 1 rfl ?_; refine s_val rfl rfl rfl (r_assign rfl rfl) ?_)
      | (refine s_k 13 rfl ?_; first | refine s_val rfl rfl rfl (r_lss rfl rfl rfl) ?_ | refine s_val rfl rfl rfl (r_eql rfl rfl rfl) ?_ | refine s_val rfl rfl rfl (r_add rfl rfl rfl (wrap_in (by simp only [lo, hi]; omega))) ?_)
      | (refine s_k 14 rfl ?_; refine s_val rfl rfl rfl (r_not rfl rfl) ?_)
      | (refine s_k 2 rfl ?_; first | refine s_val rfl rfl rfl (r_pick1 rfl rfl zTr rfl) ?_ | refine s_val rfl rfl rfl (r_pick0 rfl rfl zTr rfl) ?_)
      | (refine s_k 25 rfl ?_; first | refine s_val rfl rfl rfl (r_ixN tb rfl rfl rfl rfl (by omega)) ?_ | refine s_val rfl rfl rfl (r_ixA tb rfl rfl rfl rfl (by omega) (by omega)) ?_ | refine s_val rfl rfl rfl (r_ixO tb rfl rfl rfl rfl (by omega)) ?_)
      | (refine s_k 4 rfl ?_; first | refine s_boxA rfl rfl rfl rfl rfl fun blk => ?_ | refine s_box1 rfl rfl rfl rfl rfl rfl fun blk => ?_)
      | (refine s_k 9 rfl ?_; (first | refine s_st1 tb rfl rfl rfl rfl rfl rfl rfl rfl ?_ | refine s_stA tb rfl rfl rfl rfl (by first | rfl | assumption | (apply Pv.size; assumption)) rfl rfl ?_); (first | refine' st0 ?qs ?_ | refine' st1 ?qs ?_ | refine' st2 ?qs ?_ | refine' st3 ?qs ?_ | refine' st4 ?qs ?_ | refine' st5 ?qs ?_ | refine' st6 ?qs ?_ | refine' st7 ?qs ?_ | refine' st8 ?qs ?_ | refine' st9 ?qs ?_ | refine' st10 ?qs ?_ | refine' st11 ?qs ?_); (case qs => (first | exact zSet)))
      | (refine s_k 36 rfl ?_; refine s_val rfl rfl rfl (r_len tb rfl rfl rfl) ?_)
      | (refine s_k 12 rfl ?_; refine s_val rfl rfl rfl (r_nil rfl rfl) ?_)
      | refine s_nil ?_)
              | (refine c_g ?_; first | refine c_seq ?_ | refine c_region ?_ | (refine c_gc ?_; first | refine c_cond1 rfl zTr ?_ | refine c_cond0 rfl zTr ?_ | refine z_condd1 rfl ?_ | refine z_condd0 rfl ?_ | refine z_conddn1 rfl ?_ | refine z_conddn0 rfl ?_ | refine c_condd rfl (fun hc => ?_) (fun hc => ?_) | refine c_conddn rfl (fun hc => ?_) (fun hc => ?_) | refine c_condn rfl (fun hc => ?_) (fun hc => ?_) | refine c_cond rfl (fun hc => ?_) (fun hc => ?_)) | refine c_block ?_ | refine c_skip ?_ | refine c_exit ?_ | refine c_ret ?_)
              | (refine e_g ?_; first | refine e_then ?_ | refine e_blkn ?_ | refine e_thenx ?_ | refine e_thenr ?_ | refine e_blkr ?_ | refine e_blkx ?_ | refine e_blky rfl ?_)
              | (refine e_dropsO (D := [_, _, _]) (L' := (b7, 90, cm) :: (gw, 88, srC gp k v2 (Qf (i + 1)).2) :: R) (List.perm_middle (l₁ := [_, _, _, _])).symm (by simp) (e_round (i + 1, v2, R) (by simp; omega) ⟨by simp; omega, by simp only [h2]; exact hBL, hbl2, fun h => by simp only [h2]; exact hR0 h⟩ ?_ rfl); (repeat' (first | exact sub_nil | refine sub_cons rfl ?_ | refine sub_cons' rfl (by simp) ?_))))
          · have hpm : ∀ (a1 a2 a3 a4 a5 a6 : Nat × TypeId × Array Value), (a1 :: a2 :: a3 :: a4 :: a5 :: a6 :: R).Perm (([a3, a4, a5] ++ R) ++ [a6, a1, a2]) := fun a1 a2 a3 a4 a5 a6 => by
              refine (List.perm_append_comm (l₁ := [a1, a2]) (l₂ := a3 :: a4 :: a5 :: a6 :: R)).trans ?_
              have h1 : (a3 :: a4 :: a5 :: a6 :: R).Perm (([a3, a4, a5] ++ R) ++ [a6]) := (List.perm_middle (l₁ := [a3, a4, a5]) (a := a6) (l₂ := R)).trans (List.perm_append_comm (l₁ := [a6]) (l₂ := [a3, a4, a5] ++ R))
              have h2 := h1.append_right [a1, a2]
              rw [List.append_assoc] at h2
              exact h2
            repeat' (first
              | (refine s_g ?_; first
      | (refine s_gd rfl ?_; first | refine s_gd1 rfl rfl zTr ?_ | refine s_gd0 rfl rfl rfl zTr ?_ | refine s_gd00 rfl rfl zTr ?_ | refine s_gp1 rfl rfl rfl (fun hc => ?_) (fun hc => ?_) | refine s_gp0 rfl rfl rfl (fun hc => ?_) (fun hc => ?_) | refine s_gnp1 rfl rfl rfl (fun hc => ?_) (fun hc => ?_) | refine s_gnp0 rfl rfl rfl (fun hc => ?_) (fun hc => ?_) | refine s_gb1 rfl rfl rfl (fun hc => ?_) (fun hc => ?_) | refine s_gb0 rfl rfl rfl (fun hc => ?_) (fun hc => ?_) | refine s_gnb1 rfl rfl rfl (fun hc => ?_) (fun hc => ?_) | refine s_gnb0 rfl rfl rfl (fun hc => ?_) (fun hc => ?_))
      | (refine s_k 0 rfl ?_; refine s_val rfl rfl rfl (r_move rfl rfl) ?_)
      | (refine s_k 23 rfl ?_; first | refine s_val rfl rfl rfl (r_field tb rfl rfl rfl) ?_ | refine s_val rfl rfl rfl (r_fieldS tb rfl rfl rfl) ?_)
      | (refine s_k 8 rfl ?_; first | (refine' s_val rfl rfl rfl (r_ldv rfl rfl ?qm ?qv) ?_; (case qm => (exact zMm)); (case qv => (exact zLe))) | (refine' s_val rfl rfl rfl (r_ldo rfl rfl ?qw (by simp) ?qv) ?_; (case qw => assumption); (case qv => (exact zLe))))
      | (refine s_k 1 rfl ?_; refine s_val rfl rfl rfl (r_assign rfl rfl) ?_)
      | (refine s_k 13 rfl ?_; first | refine s_val rfl rfl rfl (r_lss rfl rfl rfl) ?_ | refine s_val rfl rfl rfl (r_eql rfl rfl rfl) ?_ | refine s_val rfl rfl rfl (r_add rfl rfl rfl (wrap_in (by simp only [lo, hi]; omega))) ?_)
      | (refine s_k 14 rfl ?_; refine s_val rfl rfl rfl (r_not rfl rfl) ?_)
      | (refine s_k 2 rfl ?_; first | refine s_val rfl rfl rfl (r_pick1 rfl rfl zTr rfl) ?_ | refine s_val rfl rfl rfl (r_pick0 rfl rfl zTr rfl) ?_)
      | (refine s_k 25 rfl ?_; first | refine s_val rfl rfl rfl (r_ixN tb rfl rfl rfl rfl (by omega)) ?_ | refine s_val rfl rfl rfl (r_ixA tb rfl rfl rfl rfl (by omega) (by omega)) ?_ | refine s_val rfl rfl rfl (r_ixO tb rfl rfl rfl rfl (by omega)) ?_)
      | (refine s_k 4 rfl ?_; first | refine s_boxA rfl rfl rfl rfl rfl fun blk => ?_ | refine s_box1 rfl rfl rfl rfl rfl rfl fun blk => ?_)
      | (refine s_k 9 rfl ?_; (first | refine s_st1 tb rfl rfl rfl rfl rfl rfl rfl rfl ?_ | refine s_stA tb rfl rfl rfl rfl (by first | rfl | assumption | (apply Pv.size; assumption)) rfl rfl ?_); (first | refine' st0 ?qs ?_ | refine' st1 ?qs ?_ | refine' st2 ?qs ?_ | refine' st3 ?qs ?_ | refine' st4 ?qs ?_ | refine' st5 ?qs ?_ | refine' st6 ?qs ?_ | refine' st7 ?qs ?_ | refine' st8 ?qs ?_ | refine' st9 ?qs ?_ | refine' st10 ?qs ?_ | refine' st11 ?qs ?_); (case qs => (first | exact zSet)))
      | (refine s_k 36 rfl ?_; refine s_val rfl rfl rfl (r_len tb rfl rfl rfl) ?_)
      | (refine s_k 12 rfl ?_; refine s_val rfl rfl rfl (r_nil rfl rfl) ?_)
      | refine s_nil ?_)
              | (refine c_g ?_; first | refine c_seq ?_ | refine c_region ?_ | (refine c_gc ?_; first | refine c_cond1 rfl zTr ?_ | refine c_cond0 rfl zTr ?_ | refine z_condd1 rfl ?_ | refine z_condd0 rfl ?_ | refine z_conddn1 rfl ?_ | refine z_conddn0 rfl ?_ | refine c_condd rfl (fun hc => ?_) (fun hc => ?_) | refine c_conddn rfl (fun hc => ?_) (fun hc => ?_) | refine c_condn rfl (fun hc => ?_) (fun hc => ?_) | refine c_cond rfl (fun hc => ?_) (fun hc => ?_)) | refine c_block ?_ | refine c_skip ?_ | refine c_exit ?_ | refine c_ret ?_)
              | (refine e_g ?_; first | refine e_then ?_ | refine e_blkn ?_ | refine e_thenx ?_ | refine e_thenr ?_ | refine e_blkr ?_ | refine e_blkx ?_ | refine e_blky rfl ?_)
              | (refine e_dropsO (D := [_, _, _] ++ R) (L' := (b7, 90, cm) :: (gw, 88, srC gp k v2 (Qf (i + 1)).2) :: [(g, 52, cur)]) (hpm _ _ _ _ _ _) (by simp) (e_round (i + 1, v2, [(g, 52, cur)]) (by simp; omega) ⟨by simp; omega, .inr ⟨g, cap, cur, rfl, h1, h2⟩, hbl2, fun h => by simp at h⟩ ?_ rfl); (repeat' (first | exact sub_nil | refine sub_cons rfl ?_ | refine sub_cons' rfl (by simp) ?_))))
    · obtain rfl : i = nx.length := by omega
      unfold srC
      repeat' (first
        | (refine s_g ?_; first
      | (refine s_gd rfl ?_; first | refine s_gd1 rfl rfl zTr ?_ | refine s_gd0 rfl rfl rfl zTr ?_ | refine s_gd00 rfl rfl zTr ?_ | refine s_gp1 rfl rfl rfl (fun hc => ?_) (fun hc => ?_) | refine s_gp0 rfl rfl rfl (fun hc => ?_) (fun hc => ?_) | refine s_gnp1 rfl rfl rfl (fun hc => ?_) (fun hc => ?_) | refine s_gnp0 rfl rfl rfl (fun hc => ?_) (fun hc => ?_) | refine s_gb1 rfl rfl rfl (fun hc => ?_) (fun hc => ?_) | refine s_gb0 rfl rfl rfl (fun hc => ?_) (fun hc => ?_) | refine s_gnb1 rfl rfl rfl (fun hc => ?_) (fun hc => ?_) | refine s_gnb0 rfl rfl rfl (fun hc => ?_) (fun hc => ?_))
      | (refine s_k 0 rfl ?_; refine s_val rfl rfl rfl (r_move rfl rfl) ?_)
      | (refine s_k 23 rfl ?_; first | refine s_val rfl rfl rfl (r_field tb rfl rfl rfl) ?_ | refine s_val rfl rfl rfl (r_fieldS tb rfl rfl rfl) ?_)
      | (refine s_k 8 rfl ?_; first | (refine' s_val rfl rfl rfl (r_ldv rfl rfl ?qm ?qv) ?_; (case qm => (exact zMm)); (case qv => (exact zLe))) | (refine' s_val rfl rfl rfl (r_ldo rfl rfl ?qw (by simp) ?qv) ?_; (case qw => assumption); (case qv => (exact zLe))))
      | (refine s_k 1 rfl ?_; refine s_val rfl rfl rfl (r_assign rfl rfl) ?_)
      | (refine s_k 13 rfl ?_; first | refine s_val rfl rfl rfl (r_lss rfl rfl rfl) ?_ | refine s_val rfl rfl rfl (r_eql rfl rfl rfl) ?_ | refine s_val rfl rfl rfl (r_add rfl rfl rfl (wrap_in (by simp only [lo, hi]; omega))) ?_)
      | (refine s_k 14 rfl ?_; refine s_val rfl rfl rfl (r_not rfl rfl) ?_)
      | (refine s_k 2 rfl ?_; first | refine s_val rfl rfl rfl (r_pick1 rfl rfl zTr rfl) ?_ | refine s_val rfl rfl rfl (r_pick0 rfl rfl zTr rfl) ?_)
      | (refine s_k 25 rfl ?_; first | refine s_val rfl rfl rfl (r_ixN tb rfl rfl rfl rfl (by omega)) ?_ | refine s_val rfl rfl rfl (r_ixA tb rfl rfl rfl rfl (by omega) (by omega)) ?_ | refine s_val rfl rfl rfl (r_ixO tb rfl rfl rfl rfl (by omega)) ?_)
      | (refine s_k 4 rfl ?_; first | refine s_boxA rfl rfl rfl rfl rfl fun blk => ?_ | refine s_box1 rfl rfl rfl rfl rfl rfl fun blk => ?_)
      | (refine s_k 9 rfl ?_; (first | refine s_st1 tb rfl rfl rfl rfl rfl rfl rfl rfl ?_ | refine s_stA tb rfl rfl rfl rfl (by first | rfl | assumption | (apply Pv.size; assumption)) rfl rfl ?_); (first | refine' st0 ?qs ?_ | refine' st1 ?qs ?_ | refine' st2 ?qs ?_ | refine' st3 ?qs ?_ | refine' st4 ?qs ?_ | refine' st5 ?qs ?_ | refine' st6 ?qs ?_ | refine' st7 ?qs ?_ | refine' st8 ?qs ?_ | refine' st9 ?qs ?_ | refine' st10 ?qs ?_ | refine' st11 ?qs ?_); (case qs => (first | exact zSet)))
      | (refine s_k 36 rfl ?_; refine s_val rfl rfl rfl (r_len tb rfl rfl rfl) ?_)
      | (refine s_k 12 rfl ?_; refine s_val rfl rfl rfl (r_nil rfl rfl) ?_)
      | refine s_nil ?_)
        | (refine c_g ?_; first | refine c_seq ?_ | refine c_region ?_ | (refine c_gc ?_; first | refine c_cond1 rfl zTr ?_ | refine c_cond0 rfl zTr ?_ | refine z_condd1 rfl ?_ | refine z_condd0 rfl ?_ | refine z_conddn1 rfl ?_ | refine z_conddn0 rfl ?_ | refine c_condd rfl (fun hc => ?_) (fun hc => ?_) | refine c_conddn rfl (fun hc => ?_) (fun hc => ?_) | refine c_condn rfl (fun hc => ?_) (fun hc => ?_) | refine c_cond rfl (fun hc => ?_) (fun hc => ?_)) | refine c_block ?_ | refine c_skip ?_ | refine c_exit ?_ | refine c_ret ?_)
        | (refine e_g ?_; first | refine e_then ?_ | refine e_blkn ?_ | refine e_thenx ?_ | refine e_thenr ?_ | refine e_blkr ?_ | refine e_blkx ?_ | refine e_blky rfl ?_)
        | (refine e_ret0 (by simp) rfl (fun w hL => ⟨rfl, v1, Upd.of hL m1, ?_⟩)))
      rcases hBL with ⟨hR, _⟩ | ⟨g, cap, cur, rfl, hv1, hA⟩
      · obtain ⟨h1, h2⟩ := hR0 hR
        exact .inl ⟨h1, h2⟩
      · refine .inr ⟨g, cap, cur, ?_, hv1, hA, hL.at_ (by simp)⟩
        exact (Kn.perm hL (L' := [(g, 52, cur), (_, _, _), (_, _, _)]) (List.perm_append_comm (l₁ := [(_, _, _), (_, _, _)]) (l₂ := [(g, 52, cur)]))).fresh1 m1
end Go.Proofs.Ytnafnhpajkhgkaa
