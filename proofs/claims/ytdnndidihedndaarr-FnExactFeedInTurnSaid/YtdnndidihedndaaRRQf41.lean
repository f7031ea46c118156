import Derived.Test.YtdnndidihedndaaRRQf40
/- Goats that are fed in turns: the program's. No condition. -/
namespace Go.Proofs.YtdnndidihedndaaRR
set_option linter.unusedVariables false
set_option linter.unusedSimpArgs false
open Go.RowKit Mem Wk
attribute [local irreducible] Calls Wk.S Wk.C Wk.E Wk.X Wk.T Wk.Y Wk.Z Wk.andV Wk.shrV Calm.wpLex CalmB.wpLex CalmE.wpLex bfsN
theorem uSlI64 : Try.prog.underlying 44 = some (.slice 2) := by kernel_rfl
theorem iI64 : (Try.prog.info? 2).map (fun i => (i.zero, i.size, i.bytes)) = some (some (.int .i64 0), 1, 8) := by kernel_rfl
set_option maxRecDepth 100000 in
set_option maxHeartbeats 4000000 in
theorem feed_any (p : Nat → Int) (cs cur : Array Value) (T : TypeId) (gp gl o cap : Nat) (L : List Gt) (n : Nat) (w : World) (hp : Pv p cs) (hn : n ≤ 1000) (hlen : L.length = n) (hok : FdOk n 0 ⟨p, L, List.replicate n 0⟩) (hne : gp ≠ gl) (hgp : w.heap[gp]? = some (.cells cs 34 (0, 0))) (hgl : w.heap[gl]? = some (.cells cur T (0, 0))) (hin : GtIn L o cur) :
    Calls Try.prog 179 #[.pointer (some ⟨gp, 0, none⟩), .slice (some ⟨gl, o, none⟩) n cap] w fun e w' => ∃ ge cs' cu', e = .returned (.slice (some ⟨ge, 0, none⟩) n n) ∧ (Pv (fdT n ⟨p, L, List.replicate n 0⟩ (12 * n)).p cs' ∧ GtW (fdT n ⟨p, L, List.replicate n 0⟩ (12 * n)).L o n cur cu') ∧ Upd2 w w' gp 34 cs' gl T cu' ∧ w.heap.size ≤ ge ∧ w'.heap[ge]? = some (.cells (intA (fdT n ⟨p, L, List.replicate n 0⟩ (12 * n)).E) 2 (0, 0)) := by
  have hok0 := fun r => (fdT_ok0 hok ⟨cs, hp⟩ r).1
  have hok1 := fun (h : 0 < n) t => (fdT_ok h hok ⟨cs, hp⟩ t).1
  have hat : ∀ r i, i < n → fdT n ⟨p, L, List.replicate n 0⟩ (r * n + i + 1) = fdStep i (fdT n ⟨p, L, List.replicate n 0⟩ (r * n + i)) := fun r i hi => fdT_at hi
  have hz : fdT n ⟨p, L, List.replicate n 0⟩ 0 = ⟨p, L, List.replicate n 0⟩ := rfl
  refine enter2 Try.func179 rfl rfl rfl (Own.startAt2 w hne hgp hgl) ?_
  repeat' (first
    | (refine s_g ?_; first
      | (refine s_k 0 rfl ?_; refine s_val rfl rfl rfl (r_move rfl rfl) ?_)
      | (refine s_k 23 rfl ?_; first | refine s_val rfl rfl rfl (r_field tb rfl rfl rfl) ?_ | refine s_val rfl rfl rfl (r_fieldS tb rfl rfl rfl) ?_)
      | (refine s_k 8 rfl ?_; first | (refine' s_val rfl rfl rfl (r_ldv rfl rfl ?qm ?qv) ?_; (case qm => (exact zMm)); (case qv => (exact zLe))) | (refine' s_val rfl rfl rfl (r_ldo rfl rfl ?qw (by simp) ?qv) ?_; (case qw => assumption); (case qv => (exact zLe))))
      | (refine s_k 1 rfl ?_; refine s_val rfl rfl rfl (r_assign rfl rfl) ?_)
      | (refine s_k 13 rfl ?_; first | refine s_val rfl rfl rfl (r_lss rfl rfl rfl) ?_ | refine s_val rfl rfl rfl (r_add rfl rfl rfl (wrap_in (by simp only [lo, hi]; omega))) ?_ | refine s_val rfl rfl rfl (r_sub rfl rfl rfl (wrap_in (by simp only [lo, hi]; omega))) ?_)
      | (refine s_k 15 rfl ?_; refine s_val rfl rfl rfl (r_conv tb rfl rfl rfl rfl (wrap_in (by simp only [lo, hi]; omega))) ?_)
      | (refine s_k 25 rfl ?_; first | refine s_val rfl rfl rfl (r_ixN tb rfl rfl rfl rfl (by omega)) ?_ | refine s_val rfl rfl rfl (r_ixA tb rfl rfl rfl rfl (by omega) (by omega)) ?_ | refine s_val rfl rfl rfl (r_ixO tb rfl rfl rfl rfl (by omega)) ?_)
      | (refine s_k 9 rfl ?_; (first | refine s_st1 tb rfl rfl rfl rfl rfl rfl rfl rfl ?_ | refine s_stA tb rfl rfl rfl rfl (by first | rfl | assumption | (apply Pv.size; assumption)) rfl rfl ?_); (first | refine' st0 ?qs ?_ | refine' st1 ?qs ?_ | refine' st2 ?qs ?_ | refine' st3 ?qs ?_ | refine' st4 ?qs ?_ | refine' st5 ?qs ?_ | refine' st6 ?qs ?_ | refine' st7 ?qs ?_ | refine' st8 ?qs ?_ | refine' st9 ?qs ?_ | refine' st10 ?qs ?_ | refine' st11 ?qs ?_); (case qs => (first | exact zSet)))
      | (refine s_k 36 rfl ?_; refine s_val rfl rfl rfl (r_len tb rfl rfl rfl) ?_)
      | (refine s_k 21 rfl ?_; refine s_mksI (m := n) rfl uSlI64 iI64 rfl rfl (by omega) (by unfold maxLen; omega) rfl rfl rfl fun ge => ?_)
      | refine s_nil ?_)
    | (refine c_g ?_; first | refine c_seq ?_ | refine c_region ?_ | (refine c_gc ?_; first | refine c_cond1 rfl zTr ?_ | refine c_cond0 rfl zTr ?_ | refine z_condd1 rfl ?_ | refine z_condd0 rfl ?_ | refine z_conddn1 rfl ?_ | refine z_conddn0 rfl ?_ | refine c_condd rfl (fun hc => ?_) (fun hc => ?_) | refine c_conddn rfl (fun hc => ?_) (fun hc => ?_) | refine c_condn rfl (fun hc => ?_) (fun hc => ?_) | refine c_cond rfl (fun hc => ?_) (fun hc => ?_)) | refine c_block ?_ | refine c_skip ?_ | refine c_exit ?_ | refine c_ret ?_)
    | (refine e_g ?_; first | refine e_then ?_ | refine e_blkn ?_ | refine e_thenx ?_ | refine e_thenr ?_ | refine e_blkr ?_ | refine e_blkx ?_ | refine e_blky rfl ?_))
  generalize fdT n ⟨p, L, List.replicate n 0⟩ = S at *
  refine c_loop (ι := Nat × Array Value × Array Value) (fun i => 12 - i.1) (fun i => i.1 ≤ 12 ∧ Pv (S (i.1 * n)).p i.2.1 ∧ GtW (S (i.1 * n)).L o n cur i.2.2) (fun i => [(10, .int .i64 (i.1 : Int)), (5, .slice (some ⟨ge, 0, none⟩) n n), (0, .pointer (some ⟨gp, 0, none⟩)), (1, .slice (some ⟨gl, o, none⟩) n cap)]) (fun i => [(ge, 2, intA (S (i.1 * n)).E), (gp, 34, i.2.1), (gl, T, i.2.2)]) (0, cs, cur) ⟨by simp, by rw [Nat.zero_mul, hz]; exact hp, by rw [Nat.zero_mul, hz]; exact ⟨rfl, hin, fun j _ => rfl⟩⟩ ?hs ?hL ?_
  case hs => (repeat' (first | exact sub_nil | refine sub_cons rfl ?_))
  case hL => simp only [Nat.zero_mul, hz]
  rintro ⟨r, c, cu⟩ ⟨hr, hc, hW⟩
  simp only at hr hc hW ⊢
  by_cases hlt : r < 12
  · have hr12 : (r : Int) < 12 := by omega
    repeat' (first
      | (refine s_g ?_; first
      | (refine s_k 0 rfl ?_; refine s_val rfl rfl rfl (r_move rfl rfl) ?_)
      | (refine s_k 23 rfl ?_; first | refine s_val rfl rfl rfl (r_field tb rfl rfl rfl) ?_ | refine s_val rfl rfl rfl (r_fieldS tb rfl rfl rfl) ?_)
      | (refine s_k 8 rfl ?_; first | (refine' s_val rfl rfl rfl (r_ldv rfl rfl ?qm ?qv) ?_; (case qm => (exact zMm)); (case qv => (exact zLe))) | (refine' s_val rfl rfl rfl (r_ldo rfl rfl ?qw (by simp) ?qv) ?_; (case qw => assumption); (case qv => (exact zLe))))
      | (refine s_k 1 rfl ?_; refine s_val rfl rfl rfl (r_assign rfl rfl) ?_)
      | (refine s_k 13 rfl ?_; first | refine s_val rfl rfl rfl (r_lss rfl rfl rfl) ?_ | refine s_val rfl rfl rfl (r_add rfl rfl rfl (wrap_in (by simp only [lo, hi]; omega))) ?_ | refine s_val rfl rfl rfl (r_sub rfl rfl rfl (wrap_in (by simp only [lo, hi]; omega))) ?_)
      | (refine s_k 15 rfl ?_; refine s_val rfl rfl rfl (r_conv tb rfl rfl rfl rfl (wrap_in (by simp only [lo, hi]; omega))) ?_)
      | (refine s_k 25 rfl ?_; first | refine s_val rfl rfl rfl (r_ixN tb rfl rfl rfl rfl (by omega)) ?_ | refine s_val rfl rfl rfl (r_ixA tb rfl rfl rfl rfl (by omega) (by omega)) ?_ | refine s_val rfl rfl rfl (r_ixO tb rfl rfl rfl rfl (by omega)) ?_)
      | (refine s_k 9 rfl ?_; (first | refine s_st1 tb rfl rfl rfl rfl rfl rfl rfl rfl ?_ | refine s_stA tb rfl rfl rfl rfl (by first | rfl | assumption | (apply Pv.size; assumption)) rfl rfl ?_); (first | refine' st0 ?qs ?_ | refine' st1 ?qs ?_ | refine' st2 ?qs ?_ | refine' st3 ?qs ?_ | refine' st4 ?qs ?_ | refine' st5 ?qs ?_ | refine' st6 ?qs ?_ | refine' st7 ?qs ?_ | refine' st8 ?qs ?_ | refine' st9 ?qs ?_ | refine' st10 ?qs ?_ | refine' st11 ?qs ?_); (case qs => (first | exact zSet)))
      | (refine s_k 36 rfl ?_; refine s_val rfl rfl rfl (r_len tb rfl rfl rfl) ?_)
      | refine s_nil ?_)
      | (refine c_g ?_; first | refine c_seq ?_ | refine c_region ?_ | (refine c_gc ?_; first | refine c_cond1 rfl zTr ?_ | refine c_cond0 rfl zTr ?_ | refine z_condd1 rfl ?_ | refine z_condd0 rfl ?_ | refine z_conddn1 rfl ?_ | refine z_conddn0 rfl ?_ | refine c_condd rfl (fun hc => ?_) (fun hc => ?_) | refine c_conddn rfl (fun hc => ?_) (fun hc => ?_) | refine c_condn rfl (fun hc => ?_) (fun hc => ?_) | refine c_cond rfl (fun hc => ?_) (fun hc => ?_)) | refine c_block ?_ | refine c_skip ?_ | refine c_exit ?_ | refine c_ret ?_)
      | (refine e_g ?_; first | refine e_then ?_ | refine e_blkn ?_ | refine e_thenx ?_ | refine e_thenr ?_ | refine e_blkr ?_ | refine e_blkx ?_ | refine e_blky rfl ?_))
    refine c_loop (ι := Nat × Array Value × Array Value) (fun i => n - i.1) (fun i => i.1 ≤ n ∧ Pv (S (r * n + i.1)).p i.2.1 ∧ GtW (S (r * n + i.1)).L o n cur i.2.2) (fun i => [(14, .int .i64 (i.1 : Int)), (13, .int .i64 (n : Int)), (10, .int .i64 (r : Int)), (5, .slice (some ⟨ge, 0, none⟩) n n), (0, .pointer (some ⟨gp, 0, none⟩)), (1, .slice (some ⟨gl, o, none⟩) n cap)]) (fun i => [(ge, 2, intA (S (r * n + i.1)).E), (gp, 34, i.2.1), (gl, T, i.2.2)]) (0, c, cu) ⟨by simp, hc, hW⟩ ?hs rfl ?_
    case hs => (repeat' (first | exact sub_nil | refine sub_cons rfl ?_))
    rintro ⟨i, c, cu⟩ ⟨hix, hc, hW⟩
    simp only at hix hc hW ⊢
    by_cases hltx : i < n
    · have hoks := hok1 (by omega) (r * n + i)
      have hstep := hat r i hltx
      have hrn : r * n + i ≤ 12000 := by
        have := Nat.mul_le_mul (show r ≤ 11 by omega) hn
        omega
      have hg : (S (r * n + i)).L[i]? = some ((S (r * n + i)).L[i]'(by rw [hoks.lL]; exact hltx)) := List.getElem?_eq_getElem _
      have he : (S (r * n + i)).E[i]? = some ((S (r * n + i)).E[i]'(by rw [hoks.lE]; exact hltx)) := List.getElem?_eq_getElem _
      generalize (S (r * n + i)).L[i]'(by rw [hoks.lL]; exact hltx) = g at *
      generalize (S (r * n + i)).E[i]'(by rw [hoks.lE]; exact hltx) = e at *
      obtain ⟨hst, _⟩ := hoks.step hc hg he
      rw [hst] at hstep
      obtain ⟨hon, hq0, hq1⟩ := hoks.on i g hg
      obtain ⟨hl1, hl2⟩ := hoks.le i g e hg he
      have hlen1 := hoks.lL
      have hlen2 := hoks.lE
      have hm := bitM_ge (h := g.eats - e) hc hon (by omega)
      have hW1 := hW.set (S (r * n + i)).p (g.eats - e) hlen1 hg
      obtain ⟨cx, hcx⟩ := bitP_ex (h := g.eats - e) hc hon
      have hel := intA_get he
      have heat : cu[o + i * 7 + 5]? = some (.int .i16 g.eats) := by rw [hW.ins i g hg 5 (by omega)]; rfl
      have heat1 : (splice cu (o + i * 7) #[.int .i8 (bitG (S (r * n + i)).p g (g.eats - e)).x, .int .i8 (bitG (S (r * n + i)).p g (g.eats - e)).y])[o + i * 7 + 5]? = some (.int .i16 g.eats) := by
        rw [splice_get _ _ _ (by have := hW.ins.fit hg; simp; omega), if_neg (by simp)]; exact heat
      have hfit := hW.ins.fit hg
      have hext := hW.ins.ext hg
      generalize hS : S (r * n + i) = s at *
      generalize hcu1 : splice cu (o + i * 7) #[.int .i8 (bitG s.p g (g.eats - e)).x, .int .i8 (bitG s.p g (g.eats - e)).y] = cu1 at *
      have hes : (intA s.E).size = n := by rw [intA_size]; exact hlen2
      have hset := intA_set s.E i (e + bitM s.p g (g.eats - e))
      generalize hmm : bitM s.p g (g.eats - e) = m at *
      repeat' (first
        | (refine s_g ?_; first
      | (refine s_k 0 rfl ?_; refine s_val rfl rfl rfl (r_move rfl rfl) ?_)
      | (refine s_k 23 rfl ?_; first | refine s_val rfl rfl rfl (r_field tb rfl rfl rfl) ?_ | refine s_val rfl rfl rfl (r_fieldS tb rfl rfl rfl) ?_)
      | (refine s_k 8 rfl ?_; first | (refine' s_val rfl rfl rfl (r_ldv rfl rfl ?qm ?qv) ?_; (case qm => (exact zMm)); (case qv => (exact zLe))) | (refine' s_val rfl rfl rfl (r_ldo rfl rfl ?qw (by simp) ?qv) ?_; (case qw => assumption); (case qv => (exact zLe))))
      | (refine s_k 1 rfl ?_; refine s_val rfl rfl rfl (r_assign rfl rfl) ?_)
      | (refine s_k 13 rfl ?_; first | refine s_val rfl rfl rfl (r_lss rfl rfl rfl) ?_ | refine s_val rfl rfl rfl (r_add rfl rfl rfl (wrap_in (by simp only [lo, hi]; omega))) ?_ | refine s_val rfl rfl rfl (r_sub rfl rfl rfl (wrap_in (by simp only [lo, hi]; omega))) ?_)
      | (refine s_k 15 rfl ?_; refine s_val rfl rfl rfl (r_conv tb rfl rfl rfl rfl (wrap_in (by simp only [lo, hi]; omega))) ?_)
      | (refine s_k 25 rfl ?_; first | refine s_val rfl rfl rfl (r_ixN tb rfl rfl rfl rfl (by omega)) ?_ | refine s_val rfl rfl rfl (r_ixA tb rfl rfl rfl rfl (by omega) (by omega)) ?_ | refine s_val rfl rfl rfl (r_ixO tb rfl rfl rfl rfl (by omega)) ?_)
      | (refine s_k 9 rfl ?_; (first | refine s_st1 tb rfl rfl rfl rfl rfl rfl rfl rfl ?_ | refine s_stA tb rfl rfl rfl rfl (by first | rfl | assumption | (apply Pv.size; assumption)) rfl rfl ?_); (first | refine' st0 ?qs ?_ | refine' st1 ?qs ?_ | refine' st2 ?qs ?_ | refine' st3 ?qs ?_ | refine' st4 ?qs ?_ | refine' st5 ?qs ?_ | refine' st6 ?qs ?_ | refine' st7 ?qs ?_ | refine' st8 ?qs ?_ | refine' st9 ?qs ?_ | refine' st10 ?qs ?_ | refine' st11 ?qs ?_); (case qs => (first | exact zSet)))
      | (refine s_k 36 rfl ?_; refine s_val rfl rfl rfl (r_len tb rfl rfl rfl) ?_)
      | refine s_nil ?_)
        | (refine c_g ?_; first | refine c_seq ?_ | refine c_region ?_ | (refine c_gc ?_; first | refine c_cond1 rfl zTr ?_ | refine c_cond0 rfl zTr ?_ | refine z_condd1 rfl ?_ | refine z_condd0 rfl ?_ | refine z_conddn1 rfl ?_ | refine z_conddn0 rfl ?_ | refine c_condd rfl (fun hc => ?_) (fun hc => ?_) | refine c_conddn rfl (fun hc => ?_) (fun hc => ?_) | refine c_condn rfl (fun hc => ?_) (fun hc => ?_) | refine c_cond rfl (fun hc => ?_) (fun hc => ?_)) | refine c_block ?_ | refine c_skip ?_ | refine c_exit ?_ | refine c_ret ?_)
        | (refine e_g ?_; first | refine e_then ?_ | refine e_blkn ?_ | refine e_thenx ?_ | refine e_thenr ?_ | refine e_blkr ?_ | refine e_blkx ?_ | refine e_blky rfl ?_))
      refine' c_drawZTall (id := 7) 22 [false, false, false, false, false, false, false, false, false, false, false, false, false, false, false, false, false, false, false, true, false, false] (fun N => ∃ c' cu', N = [(ge, 2, intA s.E), (gp, 34, c'), (gl, T, cu')] ∧ cu'[o + i * 7 + 5]? = some (.int .i16 g.eats)) [(Sum.inl _ : CalmE.Plan (List (Nat × TypeId × Array Value))), (Sum.inl _ : CalmE.Plan (List (Nat × TypeId × Array Value))), (Sum.inl _ : CalmE.Plan (List (Nat × TypeId × Array Value))), (Sum.inl _ : CalmE.Plan (List (Nat × TypeId × Array Value))), (Sum.inl _ : CalmE.Plan (List (Nat × TypeId × Array Value))), (Sum.inl _ : CalmE.Plan (List (Nat × TypeId × Array Value))), (Sum.inl _ : CalmE.Plan (List (Nat × TypeId × Array Value))), (Sum.inl _ : CalmE.Plan (List (Nat × TypeId × Array Value))), (Sum.inl _ : CalmE.Plan (List (Nat × TypeId × Array Value))), (Sum.inl _ : CalmE.Plan (List (Nat × TypeId × Array Value))), (Sum.inl _ : CalmE.Plan (List (Nat × TypeId × Array Value))), (Sum.inl _ : CalmE.Plan (List (Nat × TypeId × Array Value))), (Sum.inl _ : CalmE.Plan (List (Nat × TypeId × Array Value))), (Sum.inl _ : CalmE.Plan (List (Nat × TypeId × Array Value))), (Sum.inl _ : CalmE.Plan (List (Nat × TypeId × Array Value))), (Sum.inl _ : CalmE.Plan (List (Nat × TypeId × Array Value))), (Sum.inl _ : CalmE.Plan (List (Nat × TypeId × Array Value))), (Sum.inl _ : CalmE.Plan (List (Nat × TypeId × Array Value))), (Sum.inl _ : CalmE.Plan (List (Nat × TypeId × Array Value))), Sum.inr _, Sum.inl _, Sum.inl _] (by kernel_rfl) (by kernel_rfl) (by kernel_rfl) (by simp only [CalmE.Agree, and_self, true_and, and_true]) ⟨c, cu, rfl, heat⟩ ?_
      repeat' (first
        | (refine s_g ?_; first
      | (refine s_k 0 rfl ?_; refine s_val rfl rfl rfl (r_move rfl rfl) ?_)
      | (refine s_k 23 rfl ?_; first | refine s_val rfl rfl rfl (r_field tb rfl rfl rfl) ?_ | refine s_val rfl rfl rfl (r_fieldS tb rfl rfl rfl) ?_)
      | (refine s_k 8 rfl ?_; first | (refine' s_val rfl rfl rfl (r_ldv rfl rfl ?qm ?qv) ?_; (case qm => (exact zMm)); (case qv => (exact zLe))) | (refine' s_val rfl rfl rfl (r_ldo rfl rfl ?qw (by simp) ?qv) ?_; (case qw => assumption); (case qv => (exact zLe))))
      | (refine s_k 1 rfl ?_; refine s_val rfl rfl rfl (r_assign rfl rfl) ?_)
      | (refine s_k 13 rfl ?_; first | refine s_val rfl rfl rfl (r_lss rfl rfl rfl) ?_ | refine s_val rfl rfl rfl (r_add rfl rfl rfl (wrap_in (by simp only [lo, hi]; omega))) ?_ | refine s_val rfl rfl rfl (r_sub rfl rfl rfl (wrap_in (by simp only [lo, hi]; omega))) ?_)
      | (refine s_k 15 rfl ?_; refine s_val rfl rfl rfl (r_conv tb rfl rfl rfl rfl (wrap_in (by simp only [lo, hi]; omega))) ?_)
      | (refine s_k 25 rfl ?_; first | refine s_val rfl rfl rfl (r_ixN tb rfl rfl rfl rfl (by omega)) ?_ | refine s_val rfl rfl rfl (r_ixA tb rfl rfl rfl rfl (by omega) (by omega)) ?_ | refine s_val rfl rfl rfl (r_ixO tb rfl rfl rfl rfl (by omega)) ?_)
      | (refine s_k 9 rfl ?_; (first | refine s_st1 tb rfl rfl rfl rfl rfl rfl rfl rfl ?_ | refine s_stA tb rfl rfl rfl rfl (by first | rfl | assumption | (apply Pv.size; assumption)) rfl rfl ?_); (first | refine' st0 ?qs ?_ | refine' st1 ?qs ?_ | refine' st2 ?qs ?_ | refine' st3 ?qs ?_ | refine' st4 ?qs ?_ | refine' st5 ?qs ?_ | refine' st6 ?qs ?_ | refine' st7 ?qs ?_ | refine' st8 ?qs ?_ | refine' st9 ?qs ?_ | refine' st10 ?qs ?_ | refine' st11 ?qs ?_); (case qs => (first | exact set_one (by rw [hes]; omega) rfl | exact zSet)); (first | (rw [hset]) | skip))
      | (refine s_k 36 rfl ?_; refine s_val rfl rfl rfl (r_len tb rfl rfl rfl) ?_)
      | refine s_nil ?_)
        | (refine c_g ?_; first | refine c_seq ?_ | refine c_region ?_ | (refine c_gc ?_; first | refine c_cond1 rfl zTr ?_ | refine c_cond0 rfl zTr ?_ | refine z_condd1 rfl ?_ | refine z_condd0 rfl ?_ | refine z_conddn1 rfl ?_ | refine z_conddn0 rfl ?_ | refine c_condd rfl (fun hc => ?_) (fun hc => ?_) | refine c_conddn rfl (fun hc => ?_) (fun hc => ?_) | refine c_condn rfl (fun hc => ?_) (fun hc => ?_) | refine c_cond rfl (fun hc => ?_) (fun hc => ?_)) | refine c_block ?_ | refine c_skip ?_ | refine c_exit ?_ | refine c_ret ?_)
        | (refine e_g ?_; first | refine e_then ?_ | refine e_blkn ?_ | refine e_thenx ?_ | refine e_thenr ?_ | refine e_blkr ?_ | refine e_blkx ?_ | refine e_blky rfl ?_)
        | (refine z_g ?_; first
      | (refine z_k 0 rfl ?_; (refine' z_val rfl rfl rfl ?hr ?hp ?_; (case hr => exact fun N hN => r_move rfl rfl); (case hp => exact rfl)))
      | (refine z_k 23 rfl ?_; first | (refine' z_val rfl rfl rfl ?hr ?hp ?_; (case hr => exact fun N hN => r_field tb rfl rfl rfl); (case hp => exact rfl)) | (refine' z_val rfl rfl rfl ?hr ?hp ?_; (case hr => exact fun N hN => r_fieldS tb rfl rfl rfl); (case hp => exact rfl)))
      | (refine z_k 8 rfl ?_; first | (refine' z_val rfl rfl rfl ?hr ?hp ?_; (case hr => (intro N hN; (obtain ⟨c', cu', rfl, hq⟩ := hN; exact r_ldv rfl rfl m0 (ldv1 tb rfl hel)))); (case hp => exact rfl)) | (refine' z_val rfl rfl rfl ?hr ?hp ?_; (case hr => (intro N hN; (obtain ⟨c', cu', rfl, hq⟩ := hN; exact r_ldv rfl rfl m2 (ldv1 tb rfl hq)))); (case hp => exact rfl)) | (refine' z_val rfl rfl rfl ?hr ?hp ?_; (case hr => (intro N hN; (refine' r_ldv rfl rfl ?qm ?qv; (case qm => (first | exact List.mem_append_right _ m0 | exact List.mem_append_right _ m1 | exact List.mem_append_right _ m2 | exact List.mem_append_right _ m3 | exact List.mem_append_right _ m4 | exact List.mem_append_right _ m5 | exact List.mem_append_right _ m6 | exact List.mem_append_right _ m7 | exact List.mem_append_right _ m8 | exact List.mem_append_right _ m9 | exact List.mem_append_right _ m10 | exact List.mem_append_right _ m11)); (case qv => (exact zLe))))); (case hp => exact rfl)) | (refine' z_val rfl rfl rfl ?hr ?hp ?_; (case hr => (intro N hN; (refine' r_ldo rfl rfl ?qw (by simp) ?qv; (case qw => assumption); (case qv => (exact zLe))))); (case hp => exact rfl)))
      | (refine z_k 1 rfl ?_; (refine' z_val rfl rfl rfl ?hr ?hp ?_; (case hr => exact fun N hN => r_assign rfl rfl); (case hp => exact rfl)))
      | (refine z_k 13 rfl ?_; first | (refine' z_val rfl rfl rfl ?hr ?hp ?_; (case hr => exact fun N hN => r_lss rfl rfl rfl); (case hp => exact rfl)) | (refine' z_add rfl rfl rfl rfl rfl rfl (wrap_in (by simp only [lo, hi]; omega)) ?hp ?_; (case hp => exact rfl)) | (refine' z_sub rfl rfl rfl rfl rfl rfl (wrap_in (by simp only [lo, hi]; omega)) ?hp ?_; (case hp => exact rfl)))
      | (refine z_k 35 rfl ?_; (refine' z_writeU12 (Pf := fun d1 d2 => Pv (bitP s.p g (g.eats - e)) d1 ∧ d2 = cu1) Try.func185 (by kernel_rfl) rfl rfl rfl rfl rfl rfl (fun w hL => (bite_any s.p c cu T gp gl (o + i * 7) g (g.eats - e) w hc hon hne (hL.at_ m1) (hL.at_ m2) hfit hext).mono fun e' w' ⟨he', c', hP, hU⟩ => ⟨by rw [hmm] at he'; exact he', c', cu1, ⟨hP, rfl⟩, by rw [hcu1] at hU; exact hU⟩) ⟨cx, cu1, hcx, rfl⟩ (fun d1 d2 ⟨h1, h2⟩ => ⟨d1, d2, rfl, by rw [h2]; exact heat1⟩) ?hp (fun d1 d2 hd => ?_); (case hp => exact rfl); obtain ⟨hd1, rfl⟩ := hd))
      | (refine z_k 15 rfl ?_; (refine' z_conv tb rfl rfl rfl rfl rfl rfl rfl (wrap_in (by simp only [lo, hi]; omega)) ?hp ?_; (case hp => exact rfl)))
      | (refine z_k 25 rfl ?_; first | (refine' z_val rfl rfl rfl ?hr ?hp ?_; (case hr => exact fun N hN => r_ixN tb rfl rfl rfl rfl (by omega)); (case hp => exact rfl)) | (refine' z_val rfl rfl rfl ?hr ?hp ?_; (case hr => exact fun N hN => r_ixA tb rfl rfl rfl rfl (by omega) (by omega)); (case hp => exact rfl)) | (refine' z_val rfl rfl rfl ?hr ?hp ?_; (case hr => exact fun N hN => r_ixO tb rfl rfl rfl rfl (by omega)); (case hp => exact rfl)))
      | (refine z_k 9 rfl ?_; first | (refine' z_put (i := 0) tb rfl rfl rfl rfl rfl rfl rfl (by first | rfl | assumption | (apply Pv.size; assumption)) rfl ?qs rfl ?hok ?hp ?_; (case qs => (first | exact set_one (by rw [hes]; omega) rfl | exact zSet)); (case hok => (first | exact trivial | (assumption))); (case hp => exact rfl)) | (refine' z_put (i := 1) tb rfl rfl rfl rfl rfl rfl rfl (by first | rfl | assumption | (apply Pv.size; assumption)) rfl ?qs rfl ?hok ?hp ?_; (case qs => (first | exact set_one (by rw [hes]; omega) rfl | exact zSet)); (case hok => (first | exact trivial | (assumption))); (case hp => exact rfl)) | (refine' z_put (i := 2) tb rfl rfl rfl rfl rfl rfl rfl (by first | rfl | assumption | (apply Pv.size; assumption)) rfl ?qs rfl ?hok ?hp ?_; (case qs => (first | exact set_one (by rw [hes]; omega) rfl | exact zSet)); (case hok => (first | exact trivial | (assumption))); (case hp => exact rfl)) | (refine' z_put (i := 3) tb rfl rfl rfl rfl rfl rfl rfl (by first | rfl | assumption | (apply Pv.size; assumption)) rfl ?qs rfl ?hok ?hp ?_; (case qs => (first | exact set_one (by rw [hes]; omega) rfl | exact zSet)); (case hok => (first | exact trivial | (assumption))); (case hp => exact rfl)))
      | (refine z_k 36 rfl ?_; (refine' z_val rfl rfl rfl ?hr ?hp ?_; (case hr => exact fun N hN => r_len tb rfl rfl rfl); (case hp => exact rfl)))
      | refine z_nil ?_)
        | refine e_tail ?_
        | (refine e_round (i + 1, d1, d2) (by simp; omega) ⟨by simp; omega, by simp only [← Nat.add_assoc, hstep]; exact hd1, by simp only [← Nat.add_assoc, hstep]; exact hW1⟩ ?_ (by simp only [← Nat.add_assoc, hstep]; rfl)))
      all_goals (repeat' (first | exact sub_nil | refine sub_cons rfl ?_))
    · have hin2 : i = n := by omega
      subst hin2
      repeat' (first
        | (refine s_g ?_; first
      | (refine s_k 0 rfl ?_; refine s_val rfl rfl rfl (r_move rfl rfl) ?_)
      | (refine s_k 23 rfl ?_; first | refine s_val rfl rfl rfl (r_field tb rfl rfl rfl) ?_ | refine s_val rfl rfl rfl (r_fieldS tb rfl rfl rfl) ?_)
      | (refine s_k 8 rfl ?_; first | (refine' s_val rfl rfl rfl (r_ldv rfl rfl ?qm ?qv) ?_; (case qm => (exact zMm)); (case qv => (exact zLe))) | (refine' s_val rfl rfl rfl (r_ldo rfl rfl ?qw (by simp) ?qv) ?_; (case qw => assumption); (case qv => (exact zLe))))
      | (refine s_k 1 rfl ?_; refine s_val rfl rfl rfl (r_assign rfl rfl) ?_)
      | (refine s_k 13 rfl ?_; first | refine s_val rfl rfl rfl (r_lss rfl rfl rfl) ?_ | refine s_val rfl rfl rfl (r_add rfl rfl rfl (wrap_in (by simp only [lo, hi]; omega))) ?_ | refine s_val rfl rfl rfl (r_sub rfl rfl rfl (wrap_in (by simp only [lo, hi]; omega))) ?_)
      | (refine s_k 15 rfl ?_; refine s_val rfl rfl rfl (r_conv tb rfl rfl rfl rfl (wrap_in (by simp only [lo, hi]; omega))) ?_)
      | (refine s_k 25 rfl ?_; first | refine s_val rfl rfl rfl (r_ixN tb rfl rfl rfl rfl (by omega)) ?_ | refine s_val rfl rfl rfl (r_ixA tb rfl rfl rfl rfl (by omega) (by omega)) ?_ | refine s_val rfl rfl rfl (r_ixO tb rfl rfl rfl rfl (by omega)) ?_)
      | (refine s_k 9 rfl ?_; (first | refine s_st1 tb rfl rfl rfl rfl rfl rfl rfl rfl ?_ | refine s_stA tb rfl rfl rfl rfl (by first | rfl | assumption | (apply Pv.size; assumption)) rfl rfl ?_); (first | refine' st0 ?qs ?_ | refine' st1 ?qs ?_ | refine' st2 ?qs ?_ | refine' st3 ?qs ?_ | refine' st4 ?qs ?_ | refine' st5 ?qs ?_ | refine' st6 ?qs ?_ | refine' st7 ?qs ?_ | refine' st8 ?qs ?_ | refine' st9 ?qs ?_ | refine' st10 ?qs ?_ | refine' st11 ?qs ?_); (case qs => (first | exact zSet)))
      | (refine s_k 36 rfl ?_; refine s_val rfl rfl rfl (r_len tb rfl rfl rfl) ?_)
      | refine s_nil ?_)
        | (refine c_g ?_; first | refine c_seq ?_ | refine c_region ?_ | (refine c_gc ?_; first | refine c_cond1 rfl zTr ?_ | refine c_cond0 rfl zTr ?_ | refine z_condd1 rfl ?_ | refine z_condd0 rfl ?_ | refine z_conddn1 rfl ?_ | refine z_conddn0 rfl ?_ | refine c_condd rfl (fun hc => ?_) (fun hc => ?_) | refine c_conddn rfl (fun hc => ?_) (fun hc => ?_) | refine c_condn rfl (fun hc => ?_) (fun hc => ?_) | refine c_cond rfl (fun hc => ?_) (fun hc => ?_)) | refine c_block ?_ | refine c_skip ?_ | refine c_exit ?_ | refine c_ret ?_)
        | (refine e_g ?_; first | refine e_then ?_ | refine e_blkn ?_ | refine e_thenx ?_ | refine e_thenr ?_ | refine e_blkr ?_ | refine e_blkx ?_ | refine e_blky rfl ?_)
        | (refine e_round (r + 1, c, cu) (by simp; omega) ⟨by simp; omega, by simp only [Nat.succ_mul]; exact hc, by simp only [Nat.succ_mul]; exact hW⟩ ?_ (by simp only [Nat.succ_mul])))
      all_goals (repeat' (first | exact sub_nil | refine sub_cons rfl ?_))
  · have hr12 : r = 12 := by omega
    subst hr12
    repeat' (first
      | (refine s_g ?_; first
      | (refine s_k 0 rfl ?_; refine s_val rfl rfl rfl (r_move rfl rfl) ?_)
      | (refine s_k 23 rfl ?_; first | refine s_val rfl rfl rfl (r_field tb rfl rfl rfl) ?_ | refine s_val rfl rfl rfl (r_fieldS tb rfl rfl rfl) ?_)
      | (refine s_k 8 rfl ?_; first | (refine' s_val rfl rfl rfl (r_ldv rfl rfl ?qm ?qv) ?_; (case qm => (exact zMm)); (case qv => (exact zLe))) | (refine' s_val rfl rfl rfl (r_ldo rfl rfl ?qw (by simp) ?qv) ?_; (case qw => assumption); (case qv => (exact zLe))))
      | (refine s_k 1 rfl ?_; refine s_val rfl rfl rfl (r_assign rfl rfl) ?_)
      | (refine s_k 13 rfl ?_; first | refine s_val rfl rfl rfl (r_lss rfl rfl rfl) ?_ | refine s_val rfl rfl rfl (r_add rfl rfl rfl (wrap_in (by simp only [lo, hi]; omega))) ?_ | refine s_val rfl rfl rfl (r_sub rfl rfl rfl (wrap_in (by simp only [lo, hi]; omega))) ?_)
      | (refine s_k 15 rfl ?_; refine s_val rfl rfl rfl (r_conv tb rfl rfl rfl rfl (wrap_in (by simp only [lo, hi]; omega))) ?_)
      | (refine s_k 25 rfl ?_; first | refine s_val rfl rfl rfl (r_ixN tb rfl rfl rfl rfl (by omega)) ?_ | refine s_val rfl rfl rfl (r_ixA tb rfl rfl rfl rfl (by omega) (by omega)) ?_ | refine s_val rfl rfl rfl (r_ixO tb rfl rfl rfl rfl (by omega)) ?_)
      | (refine s_k 9 rfl ?_; (first | refine s_st1 tb rfl rfl rfl rfl rfl rfl rfl rfl ?_ | refine s_stA tb rfl rfl rfl rfl (by first | rfl | assumption | (apply Pv.size; assumption)) rfl rfl ?_); (first | refine' st0 ?qs ?_ | refine' st1 ?qs ?_ | refine' st2 ?qs ?_ | refine' st3 ?qs ?_ | refine' st4 ?qs ?_ | refine' st5 ?qs ?_ | refine' st6 ?qs ?_ | refine' st7 ?qs ?_ | refine' st8 ?qs ?_ | refine' st9 ?qs ?_ | refine' st10 ?qs ?_ | refine' st11 ?qs ?_); (case qs => (first | exact zSet)))
      | (refine s_k 36 rfl ?_; refine s_val rfl rfl rfl (r_len tb rfl rfl rfl) ?_)
      | refine s_nil ?_)
      | (refine c_g ?_; first | refine c_seq ?_ | refine c_region ?_ | (refine c_gc ?_; first | refine c_cond1 rfl zTr ?_ | refine c_cond0 rfl zTr ?_ | refine z_condd1 rfl ?_ | refine z_condd0 rfl ?_ | refine z_conddn1 rfl ?_ | refine z_conddn0 rfl ?_ | refine c_condd rfl (fun hc => ?_) (fun hc => ?_) | refine c_conddn rfl (fun hc => ?_) (fun hc => ?_) | refine c_condn rfl (fun hc => ?_) (fun hc => ?_) | refine c_cond rfl (fun hc => ?_) (fun hc => ?_)) | refine c_block ?_ | refine c_skip ?_ | refine c_exit ?_ | refine c_ret ?_)
      | (refine e_g ?_; first | refine e_then ?_ | refine e_blkn ?_ | refine e_thenx ?_ | refine e_thenr ?_ | refine e_blkr ?_ | refine e_blkx ?_ | refine e_blky rfl ?_)
      | (refine e_ret1 (by simp) rfl (re_tmp rfl) fun w hL => ⟨ge, c, cu, rfl, ⟨hc, hW⟩, Upd2.of hL m1 m2, Kn.new_ge hL, hL.at_ m0⟩))
end Go.Proofs.YtdnndidihedndaaRR
