import Derived.Test.YtdnndidihedndaaRRQf41
/- Goats that are fed bite by bite: the reference's. No condition. -/
namespace Go.Proofs.YtdnndidihedndaaRR
set_option linter.unusedVariables false
set_option linter.unusedSimpArgs false
open Go.RowKit Mem Wk
attribute [local irreducible] Calls Wk.S Wk.C Wk.E Wk.X Wk.T Wk.Y Wk.Z Wk.andV Wk.shrV Calm.wpLex CalmB.wpLex CalmE.wpLex bfsN
theorem slGt0 (w : World) : (Instr.buildSlice 47 0 #[]).run Try.prog w = .ok (.slice (some ⟨w.heap.size, 0, none⟩) 0 0) (w.alloc (.cells #[] 103 (0, 0))) := by kernel_rfl
theorem iGt : (Try.prog.info? 103).map (fun i => (i.zero, i.size, i.bytes)) = some (some (.agg #[.int .i8 0, .int .i8 0, .int .i8 0, .int .i8 0, .int .i16 0, .int .i16 0, .int .i8 0]), 7, 10) := by kernel_rfl
theorem uSlGt : Try.prog.underlying 47 = some (.slice 103) := by kernel_rfl
theorem GtIn.of_ap {L : List Gt} {n cap : Nat} {cur : Array Value} (h : Ap 7 n cap cur (L.map Gt.cells).flatten) : GtIn L 0 cur := fun i g hg j hj => by
  rw [show 0 + i * 7 + j = i * 7 + j by omega]
  exact h.elem (lenGt L) (by simp [hg]) j hj
/-- goats in a block of their own -/
theorem GtIn.ap {L : List Gt} {n cap : Nat} {cur : Array Value} (h : GtIn L 0 cur) (hl : L.length = n) (hs : cur.size = cap * 7) (hle : n ≤ cap) (hm : cap ≤ maxLen) : Ap 7 n cap cur (L.map Gt.cells).flatten := by
  have := Pt.ap (sz := 7) (cap := cap) (cur := cur) (xs := L.map Gt.cells) (fun i c hi hc j hj => by
    rw [List.getElem?_map] at hc
    cases hg : L[i]? with
    | none => rw [hg] at hc; cases hc
    | some g => rw [hg] at hc; injection hc with hc; subst hc; have := h i g hg j hj; rwa [show 0 + i * 7 + j = i * 7 + j by omega] at this) (lenGt L) hs (by simpa [hl] using hle) hm
  rwa [List.length_map, hl] at this
theorem GtIn.put {L : List Gt} {o : Nat} {cur : Array Value} (h : GtIn L o cur) {i : Nat} {g g' : Gt} (hg : L[i]? = some g) : GtIn (L.set i g') o (splice cur (o + i * 7) (gtA g')) := fun k d hd j hj => by
  have hf := h.fit hg
  have hs : (gtA g').size = 7 := rfl
  rw [splice_get _ _ _ (by rw [hs]; omega), hs]
  by_cases e : k = i
  · subst e
    rw [List.getElem?_set_self (List.getElem?_eq_some_iff.1 hg).1] at hd
    injection hd with hd; subst hd
    rw [if_pos (by omega), show o + k * 7 + j - (o + k * 7) = j by omega]
    unfold gtA Gt.cells; simp
  · rw [List.getElem?_set_ne (fun e2 => e e2.symm)] at hd
    rw [if_neg]
    · exact h k d hd j hj
    · intro h1
      have : k < i ∨ i < k := by omega
      rcases this with h2 | h2
      · have := Nat.mul_le_mul_right 7 (show k + 1 ≤ i by omega); rw [Nat.succ_mul] at this; omega
      · have := Nat.mul_le_mul_right 7 (show i + 1 ≤ k by omega); rw [Nat.succ_mul] at this; omega
def NewB (n : Nat) (s : Fd) (w : World) (e : Ending) (w' : World) : Prop := ∃ gl ge cap cu c, e = .returned (.tuple #[.agg c, .slice (some ⟨gl, 0, none⟩) n cap, .slice (some ⟨ge, 0, none⟩) n n]) ∧ Pv s.p c ∧ Ap 7 n cap cu (s.L.map Gt.cells).flatten ∧ Below w.heap.size w w' ∧ w.heap.size ≤ gl ∧ w.heap.size ≤ ge ∧ gl ≠ ge ∧ w'.heap[gl]? = some (.cells cu 103 (0, 0)) ∧ w'.heap[ge]? = some (.cells (intA s.E) 2 (0, 0))
theorem flGt_one (L : List Gt) : ∀ u ∈ (L.map Gt.cells).flatten, u.oneCell' = true := fun u hu => by
  obtain ⟨c, hc, hu⟩ := List.mem_flatten.1 hu
  obtain ⟨g, _, rfl⟩ := List.mem_map.1 hc
  simp [Gt.cells] at hu
  rcases hu with rfl | rfl | rfl | rfl | rfl | rfl | rfl <;> rfl
theorem Kn.fresh {w0 w : World} {L : List (Nat × TypeId × Array Value)} (h : Kn [] w0 w L) {x : Nat × TypeId × Array Value} (hx : x ∈ L) : w0.heap.size ≤ x.1 := (h.low x hx).resolve_right (by simp)
set_option maxRecDepth 100000 in
set_option maxHeartbeats 4000000 in
theorem l02Bites_any (p : Nat → Int) (cs : Array Value) (gb off cap : Nat) (L : List Gt) (n : Nat) (w : World) (hp : Pv p cs) (hn : n ≤ 1000) (hlen : L.length = n) (hok : FdOk n 0 ⟨p, L, List.replicate n 0⟩) (hS : SlA [] w 7 (some ⟨gb, off, none⟩) (L.map Gt.cells)) :
    Calls Try.prog 186 #[.agg cs, .slice (some ⟨gb, off, none⟩) n cap] w (NewB n (fdT n ⟨p, L, List.replicate n 0⟩ (12 * n)) w) := by
  have hok1 := fun (h : 0 < n) t => (fdT_ok h hok ⟨cs, hp⟩ t).1
  have hok0 := (fdT_ok0 hok ⟨cs, hp⟩ 12).1
  have hat : ∀ r i, i < n → fdT n ⟨p, L, List.replicate n 0⟩ (r * n + i + 1) = fdStep i (fdT n ⟨p, L, List.replicate n 0⟩ (r * n + i)) := fun r i hi => fdT_at hi
  have hz : fdT n ⟨p, L, List.replicate n 0⟩ 0 = ⟨p, L, List.replicate n 0⟩ := rfl
  refine enter2 Try.func186 rfl rfl rfl (Own.start w) ?_
  repeat' (first
    | (refine s_g ?_; first
      | (refine s_k 0 rfl ?_; refine s_val rfl rfl rfl (r_move rfl rfl) ?_)
      | (refine s_k 23 rfl ?_; first | refine s_val rfl rfl rfl (r_field tb rfl rfl rfl) ?_ | refine s_val rfl rfl rfl (r_fieldS tb rfl rfl rfl) ?_)
      | (refine s_k 8 rfl ?_; first | (refine' s_val rfl rfl rfl (r_ldv rfl rfl ?qm ?qv) ?_; (case qm => (exact zMm)); (case qv => (exact zLe))) | (refine' s_val rfl rfl rfl (r_ldo rfl rfl ?qw (by simp) ?qv) ?_; (case qw => assumption); (case qv => (exact zLe))))
      | (refine s_k 1 rfl ?_; refine s_val rfl rfl rfl (r_assign rfl rfl) ?_)
      | (refine s_k 13 rfl ?_; first | refine s_val rfl rfl rfl (r_lss rfl rfl rfl) ?_ | refine s_val rfl rfl rfl (r_add rfl rfl rfl (wrap_in (by simp only [lo, hi]; omega))) ?_ | refine s_val rfl rfl rfl (r_sub rfl rfl rfl (wrap_in (by simp only [lo, hi]; omega))) ?_)
      | (refine s_k 15 rfl ?_; refine s_val rfl rfl rfl (r_conv tb rfl rfl rfl rfl (wrap_in (by simp only [lo, hi]; omega))) ?_)
      | (refine s_k 25 rfl ?_; first | refine s_val rfl rfl rfl (r_ixN tb rfl rfl rfl rfl (by omega)) ?_ | refine s_val rfl rfl rfl (r_ixA tb rfl rfl rfl rfl (by omega) (by omega)) ?_ | refine s_val rfl rfl rfl (r_ixO tb rfl rfl rfl rfl (by omega)) ?_)
      | (refine s_k 4 rfl ?_; first | refine s_boxA rfl rfl rfl rfl rfl fun blk => ?_ | refine s_box1 rfl rfl rfl rfl rfl rfl fun blk => ?_)
      | (refine s_k 9 rfl ?_; (first | refine s_st1 tb rfl rfl rfl rfl rfl rfl rfl rfl ?_ | refine s_stA tb rfl rfl rfl rfl (by first | rfl | assumption | (apply Pv.size; assumption)) rfl rfl ?_); (first | refine' st0 ?qs ?_ | refine' st1 ?qs ?_ | refine' st2 ?qs ?_ | refine' st3 ?qs ?_ | refine' st4 ?qs ?_ | refine' st5 ?qs ?_ | refine' st6 ?qs ?_ | refine' st7 ?qs ?_ | refine' st8 ?qs ?_ | refine' st9 ?qs ?_ | refine' st10 ?qs ?_ | refine' st11 ?qs ?_); (case qs => (first | exact zSet)))
      | (refine s_k 3 rfl ?_; refine s_allocA (t := 34) rfl zImplPas rfl rfl rfl fun blk => ?_)
      | (refine s_k 36 rfl ?_; first | refine s_appS (pre := []) rfl uSlGt iGt rfl (by omega) (Ap.nil 7) hS (by simp [hlen]) rfl rfl (flGt_one L) (by unfold maxLen; omega) (by omega) rfl rfl rfl fun gl capl cul hA => ?_ | refine s_val rfl rfl rfl (r_len tb rfl rfl rfl) ?_)
      | (refine s_k 21 rfl ?_; refine s_mksI (m := n) rfl uSlI64 iI64 rfl rfl (by omega) (by unfold maxLen; omega) rfl rfl rfl fun ge => ?_)
      | (refine s_k 34 rfl ?_; refine s_val rfl rfl rfl (r_extractL rfl rfl rfl) ?_)
      | (refine s_k 6 rfl ?_; refine s_bsl rfl rfl (fun w => slGt0 w) rfl rfl rfl fun blk => ?_)
      | refine s_nil ?_)
    | (refine c_g ?_; first | refine c_seq ?_ | refine c_region ?_ | (refine c_gc ?_; first | refine c_cond1 rfl zTr ?_ | refine c_cond0 rfl zTr ?_ | refine z_condd1 rfl ?_ | refine z_condd0 rfl ?_ | refine z_conddn1 rfl ?_ | refine z_conddn0 rfl ?_ | refine c_condd rfl (fun hc => ?_) (fun hc => ?_) | refine c_conddn rfl (fun hc => ?_) (fun hc => ?_) | refine c_condn rfl (fun hc => ?_) (fun hc => ?_) | refine c_cond rfl (fun hc => ?_) (fun hc => ?_)) | refine c_block ?_ | refine c_skip ?_ | refine c_exit ?_ | refine c_ret ?_)
    | (refine e_g ?_; first | refine e_then ?_ | refine e_blkn ?_ | refine e_thenx ?_ | refine e_thenr ?_ | refine e_blkr ?_ | refine e_blkx ?_ | refine e_blky rfl ?_))
  rename_i b2 b4
  rw [List.nil_append, Nat.zero_add] at hA
  rw [Nat.zero_add]
  have hA0 := GtIn.of_ap hA
  have hAs := hA.size
  have hAl := hA.le
  have hAm := hA.max
  clear hA
  generalize fdT n ⟨p, L, List.replicate n 0⟩ = S at *
  refine c_loop (ι := Nat × Array Value × Array Value) (fun i => 12 - i.1) (fun i => i.1 ≤ 12 ∧ Pv (S (i.1 * n)).p i.2.1 ∧ GtIn (S (i.1 * n)).L 0 i.2.2 ∧ i.2.2.size = capl * 7) (fun i => [(9, .int .i64 (i.1 : Int)), (8, .slice (some ⟨ge, 0, none⟩) n n), (7, .slice (some ⟨gl, 0, none⟩) n capl), (4, .pointer (some ⟨b4, 0, none⟩)), (2, .pointer (some ⟨b2, 0, none⟩)), (1, .slice (some ⟨gb, off, none⟩) n cap)]) (fun i => [(ge, 2, intA (S (i.1 * n)).E), (gl, 103, i.2.2), (b4, 34, zP), (b2, 34, i.2.1)]) (0, cs, cul) ⟨by simp, by rw [Nat.zero_mul, hz]; exact hp, by rw [Nat.zero_mul, hz]; exact hA0, hAs⟩ ?hs ?hL ?_
  case hs => (repeat' (first | exact sub_nil | refine sub_cons rfl ?_))
  case hL => simp only [Nat.zero_mul, hz]; rfl
  rintro ⟨r, c, cu⟩ ⟨hr, hc, hW, hWs⟩
  simp only at hr hc hW hWs ⊢
  by_cases hlt : r < 12
  · have hr12 : (r : Int) < 12 := by omega
    repeat' (first
      | (refine s_g ?_; first
      | (refine s_k 0 rfl ?_; refine s_val rfl rfl rfl (r_move rfl rfl) ?_)
      | (refine s_k 23 rfl ?_; first | refine s_val rfl rfl rfl (r_field tb rfl rfl rfl) ?_ | refine s_val rfl rfl rfl (r_fieldS tb rfl rfl rfl) ?_)
      | (refine s_k 8 rfl ?_; first | (refine' s_val rfl rfl rfl (r_ldv rfl rfl ?qm ?qv) ?_; (case qm => (exact zMm)); (case qv => (exact zLe))) | (refine' s_val rfl rfl rfl (r_ldo rfl rfl ?qw (by simp) ?qv) ?_; (case qw => assumption); (case qv => (exact zLe))))
      | (refine s_k 1 rfl ?_; refine s_val rfl rfl rfl (r_assign rfl rfl) ?_)
      | (refine s_k 13 rfl ?_; first | refine s_val rfl rfl rfl (r_lss rfl rfl rfl) ?_ | refine s_val rfl rfl rfl (r_add rfl rfl rfl (wrap_in (by simp only [lo, hi]; omega))) ?_ | refine s_val rfl rfl rfl (r_sub rfl rfl rfl (wrap_in (by simp only [lo, hi]; omega))) ?_)
      | (refine s_k 15 rfl ?_; refine s_val rfl rfl rfl (r_conv tb rfl rfl rfl rfl (wrap_in (by simp only [lo, hi]; omega))) ?_)
      | (refine s_k 25 rfl ?_; first | refine s_val rfl rfl rfl (r_ixN tb rfl rfl rfl rfl (by omega)) ?_ | refine s_val rfl rfl rfl (r_ixA tb rfl rfl rfl rfl (by omega) (by omega)) ?_ | refine s_val rfl rfl rfl (r_ixO tb rfl rfl rfl rfl (by omega)) ?_)
      | (refine s_k 4 rfl ?_; first | refine s_boxA rfl rfl rfl rfl rfl fun blk => ?_ | refine s_box1 rfl rfl rfl rfl rfl rfl fun blk => ?_)
      | (refine s_k 9 rfl ?_; (first | refine s_st1 tb rfl rfl rfl rfl rfl rfl rfl rfl ?_ | refine s_stA tb rfl rfl rfl rfl (by first | rfl | assumption | (apply Pv.size; assumption)) rfl rfl ?_); (first | refine' st0 ?qs ?_ | refine' st1 ?qs ?_ | refine' st2 ?qs ?_ | refine' st3 ?qs ?_ | refine' st4 ?qs ?_ | refine' st5 ?qs ?_ | refine' st6 ?qs ?_ | refine' st7 ?qs ?_ | refine' st8 ?qs ?_ | refine' st9 ?qs ?_ | refine' st10 ?qs ?_ | refine' st11 ?qs ?_); (case qs => (first | exact zSet)))
      | (refine s_k 36 rfl ?_; refine s_val rfl rfl rfl (r_len tb rfl rfl rfl) ?_)
      | (refine s_k 34 rfl ?_; refine s_val rfl rfl rfl (r_extractL rfl rfl rfl) ?_)
      | refine s_nil ?_)
      | (refine c_g ?_; first | refine c_seq ?_ | refine c_region ?_ | (refine c_gc ?_; first | refine c_cond1 rfl zTr ?_ | refine c_cond0 rfl zTr ?_ | refine z_condd1 rfl ?_ | refine z_condd0 rfl ?_ | refine z_conddn1 rfl ?_ | refine z_conddn0 rfl ?_ | refine c_condd rfl (fun hc => ?_) (fun hc => ?_) | refine c_conddn rfl (fun hc => ?_) (fun hc => ?_) | refine c_condn rfl (fun hc => ?_) (fun hc => ?_) | refine c_cond rfl (fun hc => ?_) (fun hc => ?_)) | refine c_block ?_ | refine c_skip ?_ | refine c_exit ?_ | refine c_ret ?_)
      | (refine e_g ?_; first | refine e_then ?_ | refine e_blkn ?_ | refine e_thenx ?_ | refine e_thenr ?_ | refine e_blkr ?_ | refine e_blkx ?_ | refine e_blky rfl ?_))
    refine c_loop (ι := Nat × Array Value × Array Value) (fun i => n - i.1) (fun i => i.1 ≤ n ∧ Pv (S (r * n + i.1)).p i.2.1 ∧ GtIn (S (r * n + i.1)).L 0 i.2.2 ∧ i.2.2.size = capl * 7) (fun i => [(10, .int .i64 (i.1 : Int)), (9, .int .i64 (r : Int)), (8, .slice (some ⟨ge, 0, none⟩) n n), (7, .slice (some ⟨gl, 0, none⟩) n capl), (4, .pointer (some ⟨b4, 0, none⟩)), (2, .pointer (some ⟨b2, 0, none⟩)), (1, .slice (some ⟨gb, off, none⟩) n cap)]) (fun i => [(ge, 2, intA (S (r * n + i.1)).E), (gl, 103, i.2.2), (b4, 34, zP), (b2, 34, i.2.1)]) (0, c, cu) ⟨by simp, hc, hW, hWs⟩ ?hs rfl ?_
    case hs => (repeat' (first | exact sub_nil | refine sub_cons rfl ?_))
    rintro ⟨i, c, cu⟩ ⟨hix, hc, hW, hWs⟩
    simp only at hix hc hW hWs ⊢
    by_cases hltx : i < n
    · have hoks := hok1 (by omega) (r * n + i)
      have hstep := hat r i hltx
      have hrn : r * n + i ≤ 12000 := by
        have := Nat.mul_le_mul (show r ≤ 11 by omega) hn
        omega
      have hg : (S (r * n + i)).L[i]? = some ((S (r * n + i)).L[i]'(by rw [hoks.lL]; exact hltx)) := List.getElem?_eq_getElem _
      have he : (S (r * n + i)).E[i]? = some ((S (r * n + i)).E[i]'(by rw [hoks.lE]; exact hltx)) := List.getElem?_eq_getElem _
      generalize (S (r * n + i)).L[i]'(by rw [hoks.lL]; exact hltx) = g at *
      generalize (S (r * n + i)).E[i]'(by rw [hoks.lE]; exact hltx) = e at *
      obtain ⟨hst, _⟩ := hoks.step hc hg he
      rw [hst] at hstep
      obtain ⟨hon, hq0, hq1⟩ := hoks.on i g hg
      obtain ⟨hl1, hl2⟩ := hoks.le i g e hg he
      have hlen1 := hoks.lL
      have hlen2 := hoks.lE
      have hm := bitM_ge (h := g.eats - e) hc hon (by omega)
      obtain ⟨cx, hcx⟩ := bitP_ex (h := g.eats - e) hc hon
      have hel := intA_get he
      have heat : cu[0 + i * 7 + 5]? = some (.int .i16 g.eats) := by rw [hW i g hg 5 (by omega)]; rfl
      have hfit := hW.fit hg
      have hext : cu.extract (0 + i * 7) (0 + i * 7 + 7) = #[.int .i8 g.x, .int .i8 g.y, .int .i8 g.u, .int .i8 g.v, .int .i16 g.rope, .int .i16 g.eats, .int .i8 g.likes] := hW.ext hg
      have hbite := fun w => l02Bite_any (S (r * n + i)).p c cx g (g.eats - e) w hc hon (by omega) hcx
      generalize hS : S (r * n + i) = s at *
      have hes : (intA s.E).size = n := by rw [intA_size]; exact hlen2
      have hset := intA_set s.E i (e + bitM s.p g (g.eats - e))
      have hput := hW.put (g' := bitG s.p g (g.eats - e)) hg
      have hpsz : (splice cu (0 + i * 7) (gtA (bitG s.p g (g.eats - e)))).size = capl * 7 := by rw [splice_size _ _ _ (by have : (gtA (bitG s.p g (g.eats - e))).size = 7 := rfl; omega)]; exact hWs
      generalize hmm : bitM s.p g (g.eats - e) = m at *
      generalize hgg : bitG s.p g (g.eats - e) = g' at *
      repeat' (first
        | (refine s_g ?_; first
      | (refine s_k 0 rfl ?_; refine s_val rfl rfl rfl (r_move rfl rfl) ?_)
      | (refine s_k 23 rfl ?_; first | refine s_val rfl rfl rfl (r_field tb rfl rfl rfl) ?_ | refine s_val rfl rfl rfl (r_fieldS tb rfl rfl rfl) ?_)
      | (refine s_k 8 rfl ?_; first | refine s_val rfl rfl rfl (r_ldN tb rfl rfl m1 rfl hfit hext) ?_ | (refine' s_val rfl rfl rfl (r_ldv rfl rfl ?qm ?qv) ?_; (case qm => (exact zMm)); (case qv => (first | exact ldvL tb rfl rfl | exact ldv1 tb rfl (by assumption) | exact ldv1 tb rfl (hel) | exact ldv1 tb rfl (heat) | exact zLd))) | (refine' s_val rfl rfl rfl (r_ldo rfl rfl ?qw (by simp) ?qv) ?_; (case qw => assumption); (case qv => (first | exact ldvL tb rfl rfl | exact ldv1 tb rfl (by assumption) | exact ldv1 tb rfl (hel) | exact ldv1 tb rfl (heat) | exact zLd))))
      | (refine s_k 1 rfl ?_; refine s_val rfl rfl rfl (r_assign rfl rfl) ?_)
      | (refine s_k 13 rfl ?_; first | refine s_val rfl rfl rfl (r_lss rfl rfl rfl) ?_ | refine s_val rfl rfl rfl (r_add rfl rfl rfl (wrap_in (by simp only [lo, hi]; omega))) ?_ | refine s_val rfl rfl rfl (r_sub rfl rfl rfl (wrap_in (by simp only [lo, hi]; omega))) ?_)
      | (refine s_k 35 rfl ?_; (refine s_call Try.func183 (by kernel_rfl) rfl rfl rfl rfl rfl rfl (fun w hL => hbite w) ?_))
      | (refine s_k 15 rfl ?_; refine s_val rfl rfl rfl (r_conv tb rfl rfl rfl rfl (wrap_in (by simp only [lo, hi]; omega))) ?_)
      | (refine s_k 25 rfl ?_; first | refine s_val rfl rfl rfl (r_ixO tb rfl rfl rfl rfl hltx) ?_ | refine s_val rfl rfl rfl (r_ixN tb rfl rfl rfl rfl (by omega)) ?_ | refine s_val rfl rfl rfl (r_ixA tb rfl rfl rfl rfl (by omega) (by omega)) ?_ | refine s_val rfl rfl rfl (r_ixO tb rfl rfl rfl rfl (by omega)) ?_)
      | (refine s_k 4 rfl ?_; first | refine s_boxA rfl rfl rfl rfl rfl fun blk => ?_ | refine s_box1 rfl rfl rfl rfl rfl rfl fun blk => ?_)
      | (refine s_k 9 rfl ?_; (first | refine s_st1 tb rfl rfl rfl rfl rfl rfl rfl rfl ?_ | refine s_stA tb rfl rfl rfl rfl (by first | rfl | assumption | (apply Pv.size; assumption)) rfl rfl ?_); (first | refine' st0 ?qs ?_ | refine' st1 ?qs ?_ | refine' st2 ?qs ?_ | refine' st3 ?qs ?_ | refine' st4 ?qs ?_ | refine' st5 ?qs ?_ | refine' st6 ?qs ?_ | refine' st7 ?qs ?_ | refine' st8 ?qs ?_ | refine' st9 ?qs ?_ | refine' st10 ?qs ?_ | refine' st11 ?qs ?_); (case qs => (first | exact setP hcx (by first | rfl | assumption | exact hc.size) | exact set_whole (vs := gtA g') rfl (by simp [gtA, Value.oneCell']) | exact set_any (vs := gtA g') (by have : (gtA g').size = 7 := rfl; omega) (by simp [gtA, Value.oneCell']) | exact set_one (by rw [hes]; omega) rfl | exact zSet)); (first | (rw [hset]) | (refine absA3 (fun c => GtIn (s.L.set i g') 0 c ∧ c.size = capl * 7) ⟨hput, hpsz⟩ fun cu1 hcu1 => ?_) | skip))
      | (refine s_k 3 rfl ?_; first | refine s_allocA (t := 34) rfl zImplPas rfl rfl rfl fun blk => ?_ | refine s_allocA (t := 103) rfl zImplGoat0 rfl rfl rfl fun blk => ?_)
      | (refine s_k 36 rfl ?_; refine s_val rfl rfl rfl (r_len tb rfl rfl rfl) ?_)
      | (refine s_k 34 rfl ?_; refine s_val rfl rfl rfl (r_extractL rfl rfl rfl) ?_)
      | refine s_nil ?_)
        | (refine c_g ?_; first | refine c_seq ?_ | refine c_region ?_ | (refine c_gc ?_; first | refine c_cond1 rfl zTr ?_ | refine c_cond0 rfl zTr ?_ | refine z_condd1 rfl ?_ | refine z_condd0 rfl ?_ | refine z_conddn1 rfl ?_ | refine z_conddn0 rfl ?_ | refine c_condd rfl (fun hc => ?_) (fun hc => ?_) | refine c_conddn rfl (fun hc => ?_) (fun hc => ?_) | refine c_condn rfl (fun hc => ?_) (fun hc => ?_) | refine c_cond rfl (fun hc => ?_) (fun hc => ?_)) | refine c_block ?_ | refine c_skip ?_ | refine c_exit ?_ | refine c_ret ?_)
        | (refine e_g ?_; first | refine e_then ?_ | refine e_blkn ?_ | refine e_thenx ?_ | refine e_thenr ?_ | refine e_blkr ?_ | refine e_blkx ?_ | refine e_blky rfl ?_)
        | (refine x_g ?_; first
      | (refine x_k 0 rfl ?_; (refine x_val rfl rfl rfl (r_move rfl rfl) ?hp ?_; (case hp => exact rfl)))
      | (refine x_k 23 rfl ?_; first | (refine x_val rfl rfl rfl (r_field tb rfl rfl rfl) ?hp ?_; (case hp => exact rfl)) | (refine x_val rfl rfl rfl (r_fieldS tb rfl rfl rfl) ?hp ?_; (case hp => exact rfl)))
      | (refine x_k 8 rfl ?_; first | (refine x_val rfl rfl rfl (r_ldN tb rfl rfl m1 rfl hfit hext) ?hp ?_; (case hp => exact rfl)) | (refine' x_val rfl rfl rfl (r_ldv rfl rfl ?qm ?qv) ?hp ?_; (case qm => (exact zMm)); (case qv => (first | exact ldvL tb rfl rfl | exact ldv1 tb rfl (by assumption) | exact ldv1 tb rfl (hel) | exact ldv1 tb rfl (heat) | exact zLd)); (case hp => exact rfl)) | (refine' x_val rfl rfl rfl (r_ldo rfl rfl ?qw (by simp) ?qv) ?hp ?_; (case qw => assumption); (case qv => (first | exact ldvL tb rfl rfl | exact ldv1 tb rfl (by assumption) | exact ldv1 tb rfl (hel) | exact ldv1 tb rfl (heat) | exact zLd)); (case hp => exact rfl)))
      | (refine x_k 1 rfl ?_; (refine x_val rfl rfl rfl (r_assign rfl rfl) ?hp ?_; (case hp => exact rfl)))
      | (refine x_k 13 rfl ?_; first | (refine x_val rfl rfl rfl (r_lss rfl rfl rfl) ?hp ?_; (case hp => exact rfl)) | (refine x_val rfl rfl rfl (r_add rfl rfl rfl (wrap_in (by simp only [lo, hi]; omega))) ?hp ?_; (case hp => exact rfl)) | (refine x_val rfl rfl rfl (r_sub rfl rfl rfl (wrap_in (by simp only [lo, hi]; omega))) ?hp ?_; (case hp => exact rfl)))
      | (refine x_k 35 rfl ?_; (refine x_call Try.func183 (by kernel_rfl) rfl rfl rfl rfl rfl rfl (fun w hL => hbite w) ?hp ?_; (case hp => exact rfl)))
      | (refine x_k 15 rfl ?_; (refine x_val rfl rfl rfl (r_conv tb rfl rfl rfl rfl (wrap_in (by simp only [lo, hi]; omega))) ?hp ?_; (case hp => exact rfl)))
      | (refine x_k 25 rfl ?_; first | (refine x_val rfl rfl rfl (r_ixO tb rfl rfl rfl rfl hltx) ?hp ?_; (case hp => exact rfl)) | (refine x_val rfl rfl rfl (r_ixN tb rfl rfl rfl rfl (by omega)) ?hp ?_; (case hp => exact rfl)) | (refine x_val rfl rfl rfl (r_ixA tb rfl rfl rfl rfl (by omega) (by omega)) ?hp ?_; (case hp => exact rfl)) | (refine x_val rfl rfl rfl (r_ixO tb rfl rfl rfl rfl (by omega)) ?hp ?_; (case hp => exact rfl)))
      | (refine x_k 4 rfl ?_; (refine x_boxA rfl rfl rfl rfl rfl ?hp (fun blk => ?_); (case hp => exact rfl)))
      | (refine x_k 9 rfl ?_; first | (refine' x_putA0 tb rfl rfl rfl rfl (by first | rfl | assumption | (apply Pv.size; assumption)) ?qs (by first | rfl | assumption | (apply Pv.size; assumption)) rfl rfl ?hp ?_; (case qs => (first | exact setP hcx (by first | rfl | assumption | exact hc.size) | exact set_whole (vs := gtA g') rfl (by simp [gtA, Value.oneCell']) | exact set_any (vs := gtA g') (by have : (gtA g').size = 7 := rfl; omega) (by simp [gtA, Value.oneCell']) | exact set_one (by rw [hes]; omega) rfl | exact zSet)); (case hp => exact rfl)) | (refine' x_putA1 tb rfl rfl rfl rfl (by first | rfl | assumption | (apply Pv.size; assumption)) ?qs (by first | rfl | assumption | (apply Pv.size; assumption)) rfl rfl ?hp ?_; (case qs => (first | exact setP hcx (by first | rfl | assumption | exact hc.size) | exact set_whole (vs := gtA g') rfl (by simp [gtA, Value.oneCell']) | exact set_any (vs := gtA g') (by have : (gtA g').size = 7 := rfl; omega) (by simp [gtA, Value.oneCell']) | exact set_one (by rw [hes]; omega) rfl | exact zSet)); (case hp => exact rfl)) | (refine' x_putA2 tb rfl rfl rfl rfl (by first | rfl | assumption | (apply Pv.size; assumption)) ?qs (by first | rfl | assumption | (apply Pv.size; assumption)) rfl rfl ?hp ?_; (case qs => (first | exact setP hcx (by first | rfl | assumption | exact hc.size) | exact set_whole (vs := gtA g') rfl (by simp [gtA, Value.oneCell']) | exact set_any (vs := gtA g') (by have : (gtA g').size = 7 := rfl; omega) (by simp [gtA, Value.oneCell']) | exact set_one (by rw [hes]; omega) rfl | exact zSet)); (case hp => exact rfl)))
      | (refine x_k 3 rfl ?_; first | (refine x_allocA (t := 34) rfl zImplPas rfl rfl rfl ?hp (fun blk => ?_); (case hp => exact rfl)) | (refine x_allocA (t := 103) rfl zImplGoat0 rfl rfl rfl ?hp (fun blk => ?_); (case hp => exact rfl)))
      | (refine x_k 36 rfl ?_; (refine x_val rfl rfl rfl (r_len tb rfl rfl rfl) ?hp ?_; (case hp => exact rfl)))
      | (refine x_k 34 rfl ?_; (refine x_val rfl rfl rfl (r_extractL rfl rfl rfl) ?hp ?_; (case hp => exact rfl)))
      | refine x_nil0 ?_
      | refine x_nil ?_)
        | (refine' c_drawX (id := 9) [(Sum.inl _ : Calm.Plan), (Sum.inl _ : Calm.Plan), (Sum.inl _ : Calm.Plan), (Sum.inl _ : Calm.Plan), (Sum.inl _ : Calm.Plan), (Sum.inl _ : Calm.Plan), (Sum.inl _ : Calm.Plan), (Sum.inl _ : Calm.Plan), (Sum.inl _ : Calm.Plan), (Sum.inl _ : Calm.Plan), (Sum.inl _ : Calm.Plan), (Sum.inl _ : Calm.Plan), (Sum.inl _ : Calm.Plan), (Sum.inl _ : Calm.Plan), (Sum.inl _ : Calm.Plan), (Sum.inl _ : Calm.Plan), (Sum.inl _ : Calm.Plan), (Sum.inl _ : Calm.Plan), (Sum.inl _ : Calm.Plan), (Sum.inl _ : Calm.Plan), (Sum.inl _ : Calm.Plan), (Sum.inr (false, _, _) : Calm.Plan), (Sum.inr (false, _, _) : Calm.Plan), (Sum.inr (true, _, _) : Calm.Plan), (Sum.inr (true, _, _) : Calm.Plan), (Sum.inl _ : Calm.Plan)] (by kernel_rfl) (by kernel_rfl) (by kernel_rfl) ?_)
        | (refine e_drop0 (e_drop0 (e_round (i + 1, cx, cu1) (by simp; omega) ⟨by simp; omega, by simp only [← Nat.add_assoc, hstep]; exact hcx, by simp only [← Nat.add_assoc, hstep]; exact hcu1.1, hcu1.2⟩ ?_ (by simp only [← Nat.add_assoc, hstep]))))
        )
      all_goals first | ((repeat' (first | exact sub_nil | refine sub_cons rfl ?_)); done)
    · have hin2 : i = n := by omega
      subst hin2
      repeat' (first
        | (refine s_g ?_; first
      | (refine s_k 0 rfl ?_; refine s_val rfl rfl rfl (r_move rfl rfl) ?_)
      | (refine s_k 23 rfl ?_; first | refine s_val rfl rfl rfl (r_field tb rfl rfl rfl) ?_ | refine s_val rfl rfl rfl (r_fieldS tb rfl rfl rfl) ?_)
      | (refine s_k 8 rfl ?_; first | (refine' s_val rfl rfl rfl (r_ldv rfl rfl ?qm ?qv) ?_; (case qm => (exact zMm)); (case qv => (exact zLe))) | (refine' s_val rfl rfl rfl (r_ldo rfl rfl ?qw (by simp) ?qv) ?_; (case qw => assumption); (case qv => (exact zLe))))
      | (refine s_k 1 rfl ?_; refine s_val rfl rfl rfl (r_assign rfl rfl) ?_)
      | (refine s_k 13 rfl ?_; first | refine s_val rfl rfl rfl (r_lss rfl rfl rfl) ?_ | refine s_val rfl rfl rfl (r_add rfl rfl rfl (wrap_in (by simp only [lo, hi]; omega))) ?_ | refine s_val rfl rfl rfl (r_sub rfl rfl rfl (wrap_in (by simp only [lo, hi]; omega))) ?_)
      | (refine s_k 15 rfl ?_; refine s_val rfl rfl rfl (r_conv tb rfl rfl rfl rfl (wrap_in (by simp only [lo, hi]; omega))) ?_)
      | (refine s_k 25 rfl ?_; first | refine s_val rfl rfl rfl (r_ixN tb rfl rfl rfl rfl (by omega)) ?_ | refine s_val rfl rfl rfl (r_ixA tb rfl rfl rfl rfl (by omega) (by omega)) ?_ | refine s_val rfl rfl rfl (r_ixO tb rfl rfl rfl rfl (by omega)) ?_)
      | (refine s_k 4 rfl ?_; first | refine s_boxA rfl rfl rfl rfl rfl fun blk => ?_ | refine s_box1 rfl rfl rfl rfl rfl rfl fun blk => ?_)
      | (refine s_k 9 rfl ?_; (first | refine s_st1 tb rfl rfl rfl rfl rfl rfl rfl rfl ?_ | refine s_stA tb rfl rfl rfl rfl (by first | rfl | assumption | (apply Pv.size; assumption)) rfl rfl ?_); (first | refine' st0 ?qs ?_ | refine' st1 ?qs ?_ | refine' st2 ?qs ?_ | refine' st3 ?qs ?_ | refine' st4 ?qs ?_ | refine' st5 ?qs ?_ | refine' st6 ?qs ?_ | refine' st7 ?qs ?_ | refine' st8 ?qs ?_ | refine' st9 ?qs ?_ | refine' st10 ?qs ?_ | refine' st11 ?qs ?_); (case qs => (first | exact zSet)))
      | (refine s_k 36 rfl ?_; refine s_val rfl rfl rfl (r_len tb rfl rfl rfl) ?_)
      | (refine s_k 34 rfl ?_; refine s_val rfl rfl rfl (r_extractL rfl rfl rfl) ?_)
      | refine s_nil ?_)
        | (refine c_g ?_; first | refine c_seq ?_ | refine c_region ?_ | (refine c_gc ?_; first | refine c_cond1 rfl zTr ?_ | refine c_cond0 rfl zTr ?_ | refine z_condd1 rfl ?_ | refine z_condd0 rfl ?_ | refine z_conddn1 rfl ?_ | refine z_conddn0 rfl ?_ | refine c_condd rfl (fun hc => ?_) (fun hc => ?_) | refine c_conddn rfl (fun hc => ?_) (fun hc => ?_) | refine c_condn rfl (fun hc => ?_) (fun hc => ?_) | refine c_cond rfl (fun hc => ?_) (fun hc => ?_)) | refine c_block ?_ | refine c_skip ?_ | refine c_exit ?_ | refine c_ret ?_)
        | (refine e_g ?_; first | refine e_then ?_ | refine e_blkn ?_ | refine e_thenx ?_ | refine e_thenr ?_ | refine e_blkr ?_ | refine e_blkx ?_ | refine e_blky rfl ?_)
        | (refine e_round (r + 1, c, cu) (by simp; omega) ⟨by simp; omega, by simp only [Nat.succ_mul]; exact hc, by simp only [Nat.succ_mul]; exact hW, hWs⟩ ?_ (by simp only [Nat.succ_mul])))
      all_goals (repeat' (first | exact sub_nil | refine sub_cons rfl ?_))
  · have hr12 : r = 12 := by omega
    subst hr12
    have hcs := hc.size
    repeat' (first
      | (refine s_g ?_; first
      | (refine s_k 0 rfl ?_; refine s_val rfl rfl rfl (r_move rfl rfl) ?_)
      | (refine s_k 23 rfl ?_; first | refine s_val rfl rfl rfl (r_field tb rfl rfl rfl) ?_ | refine s_val rfl rfl rfl (r_fieldS tb rfl rfl rfl) ?_)
      | (refine s_k 8 rfl ?_; first | (refine' s_val rfl rfl rfl (r_ldv rfl rfl ?qm ?qv) ?_; (case qm => (exact zMm)); (case qv => (exact zLe))) | (refine' s_val rfl rfl rfl (r_ldo rfl rfl ?qw (by simp) ?qv) ?_; (case qw => assumption); (case qv => (exact zLe))))
      | (refine s_k 1 rfl ?_; refine s_val rfl rfl rfl (r_assign rfl rfl) ?_)
      | (refine s_k 13 rfl ?_; first | refine s_val rfl rfl rfl (r_lss rfl rfl rfl) ?_ | refine s_val rfl rfl rfl (r_add rfl rfl rfl (wrap_in (by simp only [lo, hi]; omega))) ?_ | refine s_val rfl rfl rfl (r_sub rfl rfl rfl (wrap_in (by simp only [lo, hi]; omega))) ?_)
      | (refine s_k 15 rfl ?_; refine s_val rfl rfl rfl (r_conv tb rfl rfl rfl rfl (wrap_in (by simp only [lo, hi]; omega))) ?_)
      | (refine s_k 25 rfl ?_; first | refine s_val rfl rfl rfl (r_ixN tb rfl rfl rfl rfl (by omega)) ?_ | refine s_val rfl rfl rfl (r_ixA tb rfl rfl rfl rfl (by omega) (by omega)) ?_ | refine s_val rfl rfl rfl (r_ixO tb rfl rfl rfl rfl (by omega)) ?_)
      | (refine s_k 4 rfl ?_; first | refine s_boxA rfl rfl rfl rfl rfl fun blk => ?_ | refine s_box1 rfl rfl rfl rfl rfl rfl fun blk => ?_)
      | (refine s_k 9 rfl ?_; (first | refine s_st1 tb rfl rfl rfl rfl rfl rfl rfl rfl ?_ | refine s_stA tb rfl rfl rfl rfl (by first | rfl | assumption | (apply Pv.size; assumption)) rfl rfl ?_); (first | refine' st0 ?qs ?_ | refine' st1 ?qs ?_ | refine' st2 ?qs ?_ | refine' st3 ?qs ?_ | refine' st4 ?qs ?_ | refine' st5 ?qs ?_ | refine' st6 ?qs ?_ | refine' st7 ?qs ?_ | refine' st8 ?qs ?_ | refine' st9 ?qs ?_ | refine' st10 ?qs ?_ | refine' st11 ?qs ?_); (case qs => (first | exact setP hc rfl | exact zSet)))
      | (refine s_k 36 rfl ?_; refine s_val rfl rfl rfl (r_len tb rfl rfl rfl) ?_)
      | (refine s_k 34 rfl ?_; refine s_val rfl rfl rfl (r_extractL rfl rfl rfl) ?_)
      | refine s_nil ?_)
      | (refine c_g ?_; first | refine c_seq ?_ | refine c_region ?_ | (refine c_gc ?_; first | refine c_cond1 rfl zTr ?_ | refine c_cond0 rfl zTr ?_ | refine z_condd1 rfl ?_ | refine z_condd0 rfl ?_ | refine z_conddn1 rfl ?_ | refine z_conddn0 rfl ?_ | refine c_condd rfl (fun hc => ?_) (fun hc => ?_) | refine c_conddn rfl (fun hc => ?_) (fun hc => ?_) | refine c_condn rfl (fun hc => ?_) (fun hc => ?_) | refine c_cond rfl (fun hc => ?_) (fun hc => ?_)) | refine c_block ?_ | refine c_skip ?_ | refine c_exit ?_ | refine c_ret ?_)
      | (refine e_g ?_; first | refine e_then ?_ | refine e_blkn ?_ | refine e_thenx ?_ | refine e_thenr ?_ | refine e_blkr ?_ | refine e_blkx ?_ | refine e_blky rfl ?_)
      | (refine e_ret3 (by simp) rfl (re_cell tb rfl m2 rfl (by first | rfl | assumption | (apply Pv.size; assumption))) (re_tmp rfl) (re_tmp rfl) fun w hL => ⟨gl, ge, capl, cu, c, rfl, hc, GtIn.ap hW hok0.lL hWs hAl hAm, hL.toBelow, Kn.fresh hL m1, Kn.fresh hL m0, Kn.ne2 hL (i := 1) (j := 0) rfl rfl (by omega), hL.at_ m1, hL.at_ m0⟩))

end Go.Proofs.YtdnndidihedndaaRR
