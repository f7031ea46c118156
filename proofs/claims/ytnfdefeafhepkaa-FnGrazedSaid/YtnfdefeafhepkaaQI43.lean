import Derived.Test.YtnfdefeafhepkaaQI42
set_option linter.unusedVariables false
set_option linter.unusedSimpArgs false
namespace Go.Proofs.Ytnfdefeafhepkaa
open Go.RowKit Mem Wk
theorem Wk.r_slcLH {P : Program} {n : Nat} {O : List Nat} {w0 : World} {ll : List (Nat × Value)} {L : List (Nat × TypeId × Array Value)} {o : Oper} {x y z : Operand} (tb : Tb P) {t el sz : Nat} {g off len cap i h : Nat} {kd kd' : IntKind} (ho : o.op = .slice t x (some y) (some z) none) (hx : ev ll x = some (.slice (some ⟨g, off, none⟩) len cap)) (hy : ev ll y = some (.int kd (i : Int))) (hz : ev ll z = some (.int kd' (h : Int))) (ht : lkT tb.l t = some (el, sz)) (h1 : i ≤ h) (h2 : h ≤ cap) (hlt : i < cap) : Rn P n O w0 ll L o (.slice (some ⟨g, off + i * sz, none⟩) (h - i) (cap - i)) := fun a w hF hL => by
  have hu := (tb.slice ht).1
  have he : P.underlying t = some (.slice (P.elem t)) := by rw [hu]; simp [Program.elem, hu]
  have hel : P.elem t = el := by simp [Program.elem, hu]
  have hs := run_size (tb.slice ht).2 w
  simp only [execOp, ho, Option.map_none, Option.map_some, hF.eval hx, hF.eval hy, hF.eval hz, Sem.run_bind, run_sliceAt_slice w t _ _ _ _ he, run_slice_lh w t (some ⟨g, off, none⟩) len cap he kd kd' (i : Int) (h : Int) (by omega) (by omega) (by omega), hel, hs, Result.andThen_ok, Int.toNat_natCast, sliced_l hlt, Sem.run_pure]
attribute [local irreducible] Calls Wk.S Wk.C Wk.E Wk.X Wk.T Wk.Y Wk.Z Wk.anV Wk.orV Wk.andV Wk.shlV Wk.shrV Calm.wpLex CalmB.wpLex CalmE.wpLex bfsN
theorem fdStep_low {i : Nat} {s : Fd} {j : Nat} (hj : j < 2) : (fdStep i s).p j = s.p j := bitP_low hj
theorem fdT_low {n : Nat} {s : Fd} {j : Nat} (hj : j < 2) : ∀ t, (fdT n s t).p j = s.p j
  | 0 => rfl
  | t + 1 => (fdStep_low hj).trans (fdT_low hj t)
theorem f1_low {p : Nat → Int} {g : Gt} {j : Nat} (hj : j < 2) (k : Nat) : (f1S p g k).p j = p j := fdT_low hj k
theorem f1_fd (p : Nat → Int) (g : Gt) : fdT 1 ⟨p, [g], List.replicate 1 0⟩ (12 * 1) = f1S p g 12 := rfl
attribute [local irreducible] f1S f1G f1E fdT
def turN (p : Nat → Int) (L : List Gt) : Nat → Fd
  | 0 => ⟨p, L, []⟩
  | k + 1 => ⟨(f1S (turN p L k).p (L.getD k gtO) 12).p, (turN p L k).L.set k (f1G (turN p L k).p (L.getD k gtO) 12), (turN p L k).E ++ [f1E (turN p L k).p (L.getD k gtO) 12]⟩
def turS (p : Nat → Int) (L : List Gt) : Fd := turN p L L.length
theorem GtOn.low {p q : Nat → Int} {g : Gt} (h : GtOn p g) (h0 : q 0 = p 0) (h1 : q 1 = p 1) : GtOn q g := ⟨h.ok, h.rope, by rw [h0]; exact h.a, by rw [h1]; exact h.b, by rw [h0, h1]; exact h.c⟩
structure TurOk (p : Nat → Int) (L : List Gt) (k : Nat) (s : Fd) : Prop where
  lL : s.L.length = L.length
  lE : s.E.length = k
  p0 : s.p 0 = p 0
  p1 : s.p 1 = p 1
  pv : FdPv s
  same : ∀ i, k ≤ i → s.L[i]? = L[i]?
theorem turN_ok {p : Nat → Int} {cs : Array Value} {L : List Gt} (hp : Pv p cs) (hon : ∀ g ∈ L, GtOn p g ∧ 0 ≤ g.eats ∧ g.eats ≤ 100) : ∀ k, k ≤ L.length → TurOk p L k (turN p L k)
  | 0, _ => ⟨rfl, rfl, rfl, rfl, ⟨cs, hp⟩, fun _ _ => rfl⟩
  | k + 1, hk => by
    obtain ⟨h1, h2, h3, h4, ⟨c, hc⟩, h6⟩ := turN_ok hp hon k (by omega)
    have hx : L[k]? = some (L[k]'(by omega)) := List.getElem?_eq_getElem _
    have e1 : L.getD k gtO = L[k]'(by omega) := by simp [List.getD_eq_getElem?_getD, hx]
    obtain ⟨q1, q2, q3⟩ := hon _ (List.mem_of_getElem? hx)
    have hf := f1_eq hc (q1.low h3 h4) q2 q3 12
    unfold turN
    rw [e1]
    refine ⟨by simp [h1], by simp [h2], ?_, ?_, hf.2.1, fun i hi => ?_⟩
    · exact (f1_low (by omega) 12).trans h3
    · exact (f1_low (by omega) 12).trans h4
    · show ((turN p L k).L.set k _)[i]? = _
      rw [List.getElem?_set_ne (by omega)]; exact h6 i (by omega)
theorem validGt_on {p : Nat → Int} {L : List Gt} (hok : ∀ s ∈ L, s.ok) (h : validGt p L = true) : ∀ g ∈ L, GtOn p g ∧ 0 ≤ g.eats ∧ g.eats ≤ 100 := fun g hg => by
  unfold validGt at h
  simp only [Bool.and_eq_true, decide_eq_true_eq, List.all_eq_true] at h
  exact goatOk_on (hok g hg) h.1 (h.2.2 g hg)
theorem tur_step {p : Nat → Int} {cs c : Array Value} {L : List Gt} {k : Nat} (hp : Pv p cs) (hon : ∀ g ∈ L, GtOn p g ∧ 0 ≤ g.eats ∧ g.eats ≤ 100) (hk : k < L.length) (hc : Pv (turN p L k).p c) : ∃ g, L[k]? = some g ∧ (turN p L k).L[k]? = some g ∧ GtOn (turN p L k).p g ∧ 0 ≤ g.eats ∧ g.eats ≤ 100 ∧ turN p L (k + 1) = ⟨(f1S (turN p L k).p g 12).p, (turN p L k).L.set k (f1G (turN p L k).p g 12), (turN p L k).E ++ [f1E (turN p L k).p g 12]⟩ ∧ (∃ cx, Pv (f1S (turN p L k).p g 12).p cx) := by
  have h := turN_ok hp hon k (by omega)
  have hx : L[k]? = some L[k] := List.getElem?_eq_getElem hk
  have e1 : L.getD k gtO = L[k] := by simp [List.getD_eq_getElem?_getD, hx]
  obtain ⟨q1, q2, q3⟩ := hon _ (List.mem_of_getElem? hx)
  have q1' := q1.low h.p0 h.p1
  refine ⟨L[k], hx, by rw [h.same k (Nat.le_refl _)]; exact hx, q1', q2, q3, ?_, (f1_eq hc q1' q2 q3 12).2.1⟩
  rw [turN, e1]
theorem GtIn.sub {L : List Gt} {cu : Array Value} (h : GtIn L 0 cu) {k : Nat} {g : Gt} (hg : L[k]? = some g) : GtIn [g] (0 + k * 7) cu := fun i d hd j hj => by
  match i with
  | 0 => simp at hd; subst hd; rw [show 0 + k * 7 + 0 * 7 + j = 0 + k * 7 + j by omega]; exact h k _ hg j hj
  | i + 1 => simp at hd
theorem GtIn.back {L : List Gt} {cu cu' : Array Value} {k : Nat} {g g' : Gt} (h : GtIn L 0 cu) (hg : L[k]? = some g) (hW : GtW [g'] (0 + k * 7) 1 cu cu') : GtIn (L.set k g') 0 cu' := fun i d hd j hj => by
  by_cases e : i = k
  · subst e
    rw [List.getElem?_set_self (List.getElem?_eq_some_iff.1 hg).1] at hd
    injection hd with hd; subst hd
    have := hW.ins 0 g' rfl j hj
    rwa [show 0 + i * 7 + 0 * 7 + j = 0 + i * 7 + j by omega] at this
  · rw [List.getElem?_set_ne (fun e2 => e e2.symm)] at hd
    have hout : 0 + i * 7 + j < 0 + k * 7 ∨ 0 + k * 7 + 1 * 7 ≤ 0 + i * 7 + j := by
      have : i < k ∨ k < i := by omega
      rcases this with h2 | h2
      · have := Nat.mul_le_mul_right 7 (show i + 1 ≤ k by omega); rw [Nat.succ_mul] at this; omega
      · have := Nat.mul_le_mul_right 7 (show k + 1 ≤ i by omega); rw [Nat.succ_mul] at this; omega
    rw [hW.out _ hout]; exact h i d hd j hj
set_option maxRecDepth 100000 in
set_option maxHeartbeats 4000000 in
theorem implFeedInTurn_new (p : Nat → Int) (cs c' : Array Value) (L : List Gt) (g n cap : Nat) (cur : Array Value) (w : World) (hp : Pv p cs) (hok : ∀ s ∈ L, s.ok) (hv : validGt p L = true) (hc' : Pv (turS p L).p c') (hA : Ap 7 n cap cur (L.map Gt.cells).flatten) (hg : w.heap[g]? = some (.cells cur 68 (0, 0))) :
    Calls Try.prog 22 #[.agg cs, .slice (some ⟨g, 0, none⟩) n cap] w (NewF c' ((turS p L).L.map Gt.cells).flatten ((turS p L).E.map (Value.int .i64)) 0 w) := by
  have hS := hA.slA (lenGt L) hg
  have hsl := hA.toSl (lenGt L) (by omega) hg
  obtain rfl := hA.count (lenGt L) (by omega)
  rw [List.length_map] at hsl ⊢
  have h20 := (validGt_fd hok hv).1
  have hon := validGt_on hok hv
  have hcl := fun w' (hb : Below w.heap.size w w') => cloneGt_any L g 0 cap w' (hS.mono (Own.ext (Own.start w) hb)) (by omega)
  have hsz := hp.size
  unfold turS at *
  have hT := fun k hk => turN_ok hp hon k hk
  have hst := fun k c hk hc => tur_step (k := k) (c := c) hp hon hk hc
  have hz0 : (turN p L 0) = ⟨p, L, []⟩ := rfl
  generalize turN p L = S at *
  have hT12 := hT L.length (Nat.le_refl _)
  refine enter2 Try.func22 rfl rfl rfl (Own.start w) ?_
  repeat' (first | (refine s_g ?_; first | (refine s_k 0 rfl ?_; refine zsv (r_move rfl rfl) ?_) | (refine s_k 8 rfl ?_; first | (refine' s_val rfl rfl rfl (r_ldv rfl rfl ?qm ?qv) ?_; (case qm => (exact zMm)); (case qv => (exact zLe))) | (refine' s_val rfl rfl rfl (r_ldo rfl rfl ?qw (by simp) ?qv) ?_; (case qw => assumption); (case qv => (exact zLe)))) | (refine s_k 1 rfl ?_; refine zsv (r_assign rfl rfl) ?_) | (refine s_k 13 rfl ?_; first | refine zsv (r_lss rfl rfl rfl) ?_ | refine zsv (r_neq rfl rfl rfl) ?_ | refine zsv (r_add rfl rfl rfl zWr) ?_) | (refine s_k 35 rfl ?_; first | (refine s_call Try.func69 (by kernel_rfl) rfl rfl rfl rfl rfl rfl (fun w hL => (by have q := goatCode_new p cs _ L w hp (hsl.below hL.toBelow) hok; rw [hv] at q; exact q)) ?_) | (refine s_callN Try.func70 (by kernel_rfl) rfl rfl rfl rfl rfl rfl (fun w hL => hcl w hL.toBelow) fun gc n capc curc hA2 => ?_; obtain rfl := hA2.count (lenGt L) (by omega); rw [List.length_map] at hA2 ⊢; have hAs := hA2.size; have hAl := hA2.le; have hAm := hA2.max; have hAi := GtIn.of_ap hA2)) | (refine s_k 4 rfl ?_; first | refine s_boxA rfl rfl rfl rfl rfl fun blk => ?_ | refine s_box1 rfl rfl rfl rfl rfl rfl fun blk => ?_) | (refine s_k 9 rfl ?_; (first | refine s_st1 tb rfl rfl rfl rfl rfl rfl rfl rfl ?_ | refine s_stA tb rfl rfl rfl rfl zSz rfl rfl ?_); (first | refine' st0 ?qs ?_ | refine' st1 ?qs ?_ | refine' st2 ?qs ?_ | refine' st3 ?qs ?_ | refine' st4 ?qs ?_ | refine' st5 ?qs ?_ | refine' st6 ?qs ?_ | refine' st7 ?qs ?_ | refine' st8 ?qs ?_ | refine' st9 ?qs ?_ | refine' st10 ?qs ?_ | refine' st11 ?qs ?_); (case qs => (first | exact zSet))) | (refine s_k 3 rfl ?_; refine s_allocA (t := 36) rfl zImplPas rfl rfl rfl fun blk => ?_) | (refine s_k 36 rfl ?_; refine zsv (r_len tb rfl rfl rfl) ?_) | (refine s_k 6 rfl ?_; refine s_bsl rfl rfl (fun w => slI0 w) rfl rfl rfl fun blk => ?_) | refine s_nil ?_) | (refine c_g ?_; first | refine c_seq ?_ | refine c_region ?_ | (refine c_gc ?_; first | refine c_cond1 rfl zTr ?_ | refine c_cond0 rfl zTr ?_) | refine c_block ?_ | refine c_skip ?_ | refine c_exit ?_ | refine c_ret ?_) | (refine e_g ?_; first | refine e_then ?_ | refine e_blkn ?_ | refine e_thenx ?_ | refine e_thenr ?_ | refine e_blkr ?_ | refine e_blkx ?_ | refine e_blky rfl ?_))
  rename_i b2 b4
  refine c_loop (ι := Nat × Nat × Nat × Array Value × Array Value × Array Value) (fun i => L.length - i.1) (fun i => i.1 ≤ L.length ∧ Ap 1 i.1 i.2.2.1 i.2.2.2.1 ((S i.1).E.map (Value.int .i64)) ∧ Pv (S i.1).p i.2.2.2.2.1 ∧ GtIn (S i.1).L 0 i.2.2.2.2.2 ∧ i.2.2.2.2.2.size = capc * 7) (fun i => [(24, .int .i64 (i.1 : Int)), (23, .int .i64 (L.length : Int)), (10, .slice (some ⟨i.2.1, 0, none⟩) i.1 i.2.2.1), (9, .slice (some ⟨gc, 0, none⟩) L.length capc), (2, .pointer (some ⟨b2, 0, none⟩)), (4, .pointer (some ⟨b4, 0, none⟩))]) (fun i => [(i.2.1, 2, i.2.2.2.1), (gc, 68, i.2.2.2.2.2), (b4, 36, zP), (b2, 36, i.2.2.2.2.1)]) (0, blk, 0, #[], cs, curc) ⟨by simp, by rw [hz0]; exact Ap.nil 1, by rw [hz0]; exact hp, by rw [hz0]; exact hAi, hAs⟩ ?hs rfl ?_
  case hs => (repeat' (first | exact sub_nil | refine sub_cons rfl ?_))
  rintro ⟨k, ga, capa, cura, c, cu⟩ ⟨hk, hO, hc, hG, hGs⟩
  simp only at hk hO hc hG hGs ⊢
  by_cases hlt : k < L.length
  · obtain ⟨q, hq0, hq1, hqon, hqe0, hqe1, hS1, cx, hcx⟩ := hst k c hlt hc
    obtain ⟨_, _, hL1, hE1⟩ := f1_eq hc hqon hqe0 hqe1 12
    have hfe := fun w gp gl cap hne hgp hgl => feed_any (S k).p c cu 68 gp gl (0 + k * 7) cap [q] 1 w hc (by omega) rfl (f1_ok hc hqon hqe0 hqe1) hne hgp hgl (hG.sub hq1)
    have hS12 := f1_fd (S k).p q
    simp only [hS12, hL1, hE1] at hfe
    clear hS12 hL1 hE1
    generalize f1G (S k).p q 12 = g' at *
    generalize f1E (S k).p q 12 = e' at *
    generalize (f1S (S k).p q 12).p = q' at *
    have hk20 : (k : Int) ≤ 20 := by omega
    have hk1 : (k : Int) + 1 = ((k + 1 : Nat) : Int) := by omega
    repeat' (first | (refine s_g ?_; first | (refine s_k 0 rfl ?_; refine zsv (r_move rfl rfl) ?_) | (refine s_k 8 rfl ?_; first | (refine' s_val rfl rfl rfl (r_ldv rfl rfl ?qm ?qv) ?_; (case qm => (exact zMm)); (case qv => (exact zLe))) | (refine' s_val rfl rfl rfl (r_ldo rfl rfl ?qw (by simp) ?qv) ?_; (case qw => assumption); (case qv => (exact zLe)))) | (refine s_k 1 rfl ?_; refine zsv (r_assign rfl rfl) ?_) | (refine s_k 13 rfl ?_; first | refine zsv (r_add rfl rfl rfl (by rw [hk1]; exact wrap_in (by simp only [lo, hi]; omega))) ?_ | refine zsv (r_lss rfl rfl rfl) ?_ | refine zsv (r_neq rfl rfl rfl) ?_ | refine zsv (r_add rfl rfl rfl zWr) ?_) | (refine s_k 35 rfl ?_; (refine s_callW3_1 (vf := fun ge => .slice (some ⟨ge, 0, none⟩) 1 1) (ce := ([Value.int .i64 e'] : List Value).toArray) (Te := 2) (Pf := fun d1 d2 => d1 = cx ∧ GtIn ((S k).L.set k g') 0 d2 ∧ d2.size = cu.size) Try.func71 (by kernel_rfl) rfl rfl rfl rfl rfl (by simp only [Nat.add_sub_cancel_left]; rfl) (fun w hL => (hfe w _ _ _ (Kn.ne2 hL (i := 3) (j := 1) rfl rfl (by omega)) (hL.at_ m3) (hL.at_ m1)).mono fun e w' ⟨ge, c1, cu1, he, ⟨hP, hW⟩, hU, h1, h2⟩ => ⟨ge, c1, cu1, he, ⟨hP.uniq hcx, hG.back hq1 hW, hW.size⟩, hU, h1, h2⟩) fun ge d1 d2 hd => ?_; obtain ⟨rfl, hd2, hd3⟩ := hd)) | (refine s_k 4 rfl ?_; first | refine s_boxA rfl rfl rfl rfl rfl fun blk => ?_ | refine s_box1 rfl rfl rfl rfl rfl rfl fun blk => ?_) | (refine s_k 9 rfl ?_; (first | refine s_st1 tb rfl rfl rfl rfl rfl rfl rfl rfl ?_ | refine s_stA tb rfl rfl rfl rfl zSz rfl rfl ?_); (first | refine' st0 ?qs ?_ | refine' st1 ?qs ?_ | refine' st2 ?qs ?_ | refine' st3 ?qs ?_ | refine' st4 ?qs ?_ | refine' st5 ?qs ?_ | refine' st6 ?qs ?_ | refine' st7 ?qs ?_ | refine' st8 ?qs ?_ | refine' st9 ?qs ?_ | refine' st10 ?qs ?_ | refine' st11 ?qs ?_); (case qs => (first | exact zSet))) | (refine s_k 36 rfl ?_; first | refine s_app0 hO rfl rfl rfl uSlI64 iI64 rfl (by omega) (by simp) (by simp) rfl (by simp [Value.oneCell']) (by unfold maxLen; omega) (by omega) rfl rfl rfl fun g2 cap2 cur2 hO' => ?_ | refine zsv (r_len tb rfl rfl rfl) ?_) | (refine s_k 22 rfl ?_; refine zsv (r_slcLH (i := k) (h := k + 1) tb rfl rfl rfl rfl rfl (by omega) (by omega) (by omega)) ?_) | refine s_nil ?_) | (refine c_g ?_; first | refine c_seq ?_ | refine c_region ?_ | (refine c_gc ?_; first | refine c_cond1 rfl zTr ?_ | refine c_cond0 rfl zTr ?_) | refine c_block ?_ | refine c_skip ?_ | refine c_exit ?_ | refine c_ret ?_) | (refine e_g ?_; first | refine e_then ?_ | refine e_blkn ?_ | refine e_thenx ?_ | refine e_thenr ?_ | refine e_blkr ?_ | refine e_blkx ?_ | refine e_blky rfl ?_) | (refine e_round (k + 1, g2, cap2, cur2, d1, d2) (by simp; omega) ⟨by simp; omega, by simp only [hS1]; simpa using hO', by simp only [hS1]; exact hcx, by simp only [hS1]; exact hd2, by simp only [hd3]; exact hGs⟩ ?_ rfl))
    all_goals (repeat' (first | exact sub_nil | refine sub_cons rfl ?_))
  · have hkl : k = L.length := by omega
    subst hkl
    obtain rfl := hc.uniq hc'
    have hsc := hc.size
    repeat' (first | (refine s_g ?_; first | (refine s_k 0 rfl ?_; refine zsv (r_move rfl rfl) ?_) | (refine s_k 8 rfl ?_; first | (refine' s_val rfl rfl rfl (r_ldv rfl rfl ?qm ?qv) ?_; (case qm => (exact zMm)); (case qv => (exact zLe))) | (refine' s_val rfl rfl rfl (r_ldo rfl rfl ?qw (by simp) ?qv) ?_; (case qw => assumption); (case qv => (exact zLe)))) | (refine s_k 1 rfl ?_; refine zsv (r_assign rfl rfl) ?_) | (refine s_k 13 rfl ?_; first | refine zsv (r_lss rfl rfl rfl) ?_ | refine zsv (r_neq rfl rfl rfl) ?_ | refine zsv (r_add rfl rfl rfl zWr) ?_) | (refine s_k 4 rfl ?_; first | refine s_boxA rfl rfl rfl rfl rfl fun blk => ?_ | refine s_box1 rfl rfl rfl rfl rfl rfl fun blk => ?_) | (refine s_k 9 rfl ?_; (first | refine s_st1 tb rfl rfl rfl rfl rfl rfl rfl rfl ?_ | refine s_stA tb rfl rfl rfl rfl zSz rfl rfl ?_); (first | refine' st0 ?qs ?_ | refine' st1 ?qs ?_ | refine' st2 ?qs ?_ | refine' st3 ?qs ?_ | refine' st4 ?qs ?_ | refine' st5 ?qs ?_ | refine' st6 ?qs ?_ | refine' st7 ?qs ?_ | refine' st8 ?qs ?_ | refine' st9 ?qs ?_ | refine' st10 ?qs ?_ | refine' st11 ?qs ?_); (case qs => (first | exact setP hc rfl | exact zSet))) | (refine s_k 36 rfl ?_; refine zsv (r_len tb rfl rfl rfl) ?_) | refine s_nil ?_) | (refine c_g ?_; first | refine c_seq ?_ | refine c_region ?_ | (refine c_gc ?_; first | refine c_cond1 rfl zTr ?_ | refine c_cond0 rfl zTr ?_) | refine c_block ?_ | refine c_skip ?_ | refine c_exit ?_ | refine c_ret ?_) | (refine e_g ?_; first | refine e_then ?_ | refine e_blkn ?_ | refine e_thenx ?_ | refine e_thenr ?_ | refine e_blkr ?_ | refine e_blkx ?_ | refine e_blky rfl ?_) | (refine e_ret4 (by simp) rfl (re_cell tb rfl m2 rfl zSz) (re_tmp rfl) (re_tmp rfl) (re_tmp rfl) fun w hL => NewF.of (i := 1) (j := 0) (GtIn.ap hG hT12.lL hGs hAl hAm) hO hL rfl rfl (by omega)))
theorem take_set {L : List Gt} {k : Nat} {g : Gt} (hk : k < L.length) : (L.set k g).take (k + 1) = L.take k ++ [g] := by
  rw [List.take_add_one, List.take_set, List.set_eq_of_length_le (by simp; omega)]
  simp [hk]
set_option maxRecDepth 100000 in
set_option maxHeartbeats 4000000 in
theorem specFeedInTurn_new (p : Nat → Int) (cs c' : Array Value) (L : List Gt) (g n cap : Nat) (cur : Array Value) (w : World) (hp : Pv p cs) (hok : ∀ s ∈ L, s.ok) (hv : validGt p L = true) (hc' : Pv (turS p L).p c') (hA : Ap 7 n cap cur (L.map Gt.cells).flatten) (hg : w.heap[g]? = some (.cells cur 68 (0, 0))) :
    Calls Try.prog 25 #[.agg cs, .slice (some ⟨g, 0, none⟩) n cap] w (NewF c' ((turS p L).L.map Gt.cells).flatten ((turS p L).E.map (Value.int .i64)) 0 w) := by
  have hsl := hA.toSl (lenGt L) (by omega) hg
  obtain rfl := hA.count (lenGt L) (by omega)
  rw [List.length_map] at hsl hA ⊢
  have h20 := (validGt_fd hok hv).1
  have hon := validGt_on hok hv
  have hin := GtIn.of_ap hA
  have hsz := hp.size
  unfold turS at *
  have hT := fun k hk => turN_ok hp hon k hk
  have hst := fun k c hk hc => tur_step (k := k) (c := c) hp hon hk hc
  have hz0 : (turN p L 0) = ⟨p, L, []⟩ := rfl
  generalize turN p L = S at *
  have hT12 := hT L.length (Nat.le_refl _)
  refine enter2 Try.func25 rfl rfl rfl (Own.start w) ?_
  repeat' (first | (refine s_g ?_; first | (refine s_k 0 rfl ?_; refine zsv (r_move rfl rfl) ?_) | (refine s_k 8 rfl ?_; first | (refine' s_val rfl rfl rfl (r_ldv rfl rfl ?qm ?qv) ?_; (case qm => (exact zMm)); (case qv => (exact zLe))) | (refine' s_val rfl rfl rfl (r_ldo rfl rfl ?qw (by simp) ?qv) ?_; (case qw => assumption); (case qv => (exact zLe)))) | (refine s_k 1 rfl ?_; refine zsv (r_assign rfl rfl) ?_) | (refine s_k 13 rfl ?_; first | refine zsv (r_lss rfl rfl rfl) ?_ | refine zsv (r_add rfl rfl rfl zWr) ?_) | (refine s_k 35 rfl ?_; (refine s_call Try.func72 (by kernel_rfl) rfl rfl rfl rfl rfl rfl (fun w hL => (by have q := l02Ok_any p cs _ _ _ L w hp (hL.at_ m1) (hsl.below hL.toBelow) hok; rw [hv] at q; exact q)) ?_)) | (refine s_k 14 rfl ?_; refine zsv (r_not rfl rfl) ?_) | (refine s_k 25 rfl ?_; first | refine zsv (r_ixN tb rfl rfl rfl rfl (by omega)) ?_ | refine zsv (r_ixA tb rfl rfl rfl rfl (by omega) (by omega)) ?_ | refine zsv (r_ixO tb rfl rfl rfl rfl (by omega)) ?_) | (refine s_k 4 rfl ?_; first | refine s_boxA rfl rfl rfl rfl rfl fun blk => ?_ | refine s_box1 rfl rfl rfl rfl rfl rfl fun blk => ?_) | (refine s_k 9 rfl ?_; (first | refine s_st1 tb rfl rfl rfl rfl rfl rfl rfl rfl ?_ | refine s_stA tb rfl rfl rfl rfl zSz rfl rfl ?_); (first | refine' st0 ?qs ?_ | refine' st1 ?qs ?_ | refine' st2 ?qs ?_ | refine' st3 ?qs ?_ | refine' st4 ?qs ?_ | refine' st5 ?qs ?_ | refine' st6 ?qs ?_ | refine' st7 ?qs ?_ | refine' st8 ?qs ?_ | refine' st9 ?qs ?_ | refine' st10 ?qs ?_ | refine' st11 ?qs ?_); (case qs => (first | exact zSet))) | (refine s_k 3 rfl ?_; refine s_allocA (t := 36) rfl zImplPas rfl rfl rfl fun blk => ?_) | (refine s_k 36 rfl ?_; refine zsv (r_len tb rfl rfl rfl) ?_) | (refine s_k 34 rfl ?_; refine zsv (r_extractL rfl rfl rfl) ?_) | (refine s_k 6 rfl ?_; first | refine s_bsl rfl rfl (fun w => slGt0 w) rfl rfl rfl fun blk => ?_ | refine s_bsl rfl rfl (fun w => slI0 w) rfl rfl rfl fun blk => ?_) | refine s_nil ?_) | (refine c_g ?_; first | refine c_seq ?_ | refine c_region ?_ | (refine c_gc ?_; first | refine c_cond1 rfl zTr ?_ | refine c_cond0 rfl zTr ?_) | refine c_block ?_ | refine c_skip ?_ | refine c_exit ?_ | refine c_ret ?_) | (refine e_g ?_; first | refine e_then ?_ | refine e_blkn ?_ | refine e_thenx ?_ | refine e_thenr ?_ | refine e_blkr ?_ | refine e_blkx ?_ | refine e_blky rfl ?_))
  rename_i b2 b4 b20
  refine c_loop (ι := Nat × Nat × Nat × Array Value × Nat × Nat × Array Value × Array Value) (fun i => L.length - i.1) (fun i => i.1 ≤ L.length ∧ Ap 7 i.1 i.2.2.1 i.2.2.2.1 (((S i.1).L.take i.1).map Gt.cells).flatten ∧ Ap 1 i.1 i.2.2.2.2.2.1 i.2.2.2.2.2.2.1 ((S i.1).E.map (Value.int .i64)) ∧ Pv (S i.1).p i.2.2.2.2.2.2.2) (fun i => [(10, .int .i64 (i.1 : Int)), (8, .slice (some ⟨i.2.1, 0, none⟩) i.1 i.2.2.1), (9, .slice (some ⟨i.2.2.2.2.1, 0, none⟩) i.1 i.2.2.2.2.2.1), (1, .slice (some ⟨g, 0, none⟩) L.length cap), (2, .pointer (some ⟨b2, 0, none⟩)), (4, .pointer (some ⟨b4, 0, none⟩))]) (fun i => [(i.2.2.2.2.1, 2, i.2.2.2.2.2.2.1), (i.2.1, 68, i.2.2.2.1), (b4, 36, zP), (b2, 36, i.2.2.2.2.2.2.2)]) (0, b20, 0, #[], blk, 0, #[], cs) ⟨by simp, by simpa using Ap.nil 7, by rw [hz0]; exact Ap.nil 1, by rw [hz0]; exact hp⟩ ?hs rfl ?_
  case hs => (repeat' (first | exact sub_nil | refine sub_cons rfl ?_))
  rintro ⟨k, go, capo, curo, ga, capa, cura, c⟩ ⟨hk, hG, hO, hc⟩
  simp only at hk hG hO hc ⊢
  by_cases hlt : k < L.length
  · obtain ⟨q, hq0, hq1, hqon, hqe0, hqe1, hS1, cx, hcx⟩ := hst k c hlt hc
    have hfe := fun w => l02Feed_any (S k).p c cx q w hc hqon hqe0 hqe1 hcx
    have hlS := (hT k hk).lL
    have hts := take_set (L := (S k).L) (k := k) (g := f1G (S k).p q 12) (by omega)
    generalize f1G (S k).p q 12 = g' at *
    generalize f1E (S k).p q 12 = e' at *
    generalize (f1S (S k).p q 12).p = q' at *
    have hk20 : (k : Int) ≤ 20 := by omega
    have hfit := hin.fit hq0
    have hext := hin.ext hq0
    have hxe : cur.extract (0 + k * 7) (0 + k * 7 + 7) = #[.int .i8 q.x, .int .i8 q.y, .int .i8 q.u, .int .i8 q.v, .int .i16 q.rope, .int .i16 q.eats, .int .i8 q.likes] := hext
    have hscx := hcx.size
    have hsc := hc.size
    have hgs : (gtA g').size = 7 := rfl
    repeat' (first | (refine s_g ?_; first | (refine s_k 0 rfl ?_; refine zsv (r_move rfl rfl) ?_) | (refine s_k 8 rfl ?_; first | refine zsv (r_ldo rfl rfl hg (by simp) (ldvM tb rfl hfit hxe)) ?_ | (refine' s_val rfl rfl rfl (r_ldv rfl rfl ?qm ?qv) ?_; (case qm => (exact zMm)); (case qv => (exact zLe))) | (refine' s_val rfl rfl rfl (r_ldo rfl rfl ?qw (by simp) ?qv) ?_; (case qw => assumption); (case qv => (exact zLe)))) | (refine s_k 1 rfl ?_; refine zsv (r_assign rfl rfl) ?_) | (refine s_k 13 rfl ?_; first | refine zsv (r_lss rfl rfl rfl) ?_ | refine zsv (r_add rfl rfl rfl zWr) ?_) | (refine s_k 35 rfl ?_; (refine s_call Try.func74 (by kernel_rfl) rfl rfl rfl rfl rfl rfl (fun w hL => hfe w) ?_)) | (refine s_k 14 rfl ?_; refine zsv (r_not rfl rfl) ?_) | (refine s_k 25 rfl ?_; first | refine zsv (r_ixO tb rfl rfl rfl rfl hlt) ?_ | refine zsv (r_ixN tb rfl rfl rfl rfl (by omega)) ?_ | refine zsv (r_ixA tb rfl rfl rfl rfl (by omega) (by omega)) ?_ | refine zsv (r_ixO tb rfl rfl rfl rfl (by omega)) ?_) | (refine s_k 4 rfl ?_; first | refine s_boxA rfl rfl rfl rfl rfl fun blk => ?_ | refine s_box1 rfl rfl rfl rfl rfl rfl fun blk => ?_) | (refine s_k 9 rfl ?_; (first | refine s_st1 tb rfl rfl rfl rfl rfl rfl rfl rfl ?_ | refine s_stA tb rfl rfl rfl rfl zSz rfl rfl ?_); (first | refine' st0 ?qs ?_ | refine' st1 ?qs ?_ | refine' st2 ?qs ?_ | refine' st3 ?qs ?_ | refine' st4 ?qs ?_ | refine' st5 ?qs ?_ | refine' st6 ?qs ?_ | refine' st7 ?qs ?_ | refine' st8 ?qs ?_ | refine' st9 ?qs ?_ | refine' st10 ?qs ?_ | refine' st11 ?qs ?_); (case qs => (first | exact setP hcx (by first | rfl | assumption) | exact set_whole (vs := gtA g') rfl (by simp [gtA, Value.oneCell']) | exact zSet))) | (refine s_k 3 rfl ?_; first | refine s_allocA (t := 36) rfl zImplPas rfl rfl rfl fun blk => ?_ | refine s_allocA (t := 68) rfl zImplGoat0 rfl rfl rfl fun blk => ?_) | (refine s_k 36 rfl ?_; first | refine s_app3 hG rfl rfl rfl uSlGt iGt rfl (by omega) (by simp) (by simp) rfl (by simp [Value.oneCell']) (by unfold maxLen; omega) (by omega) rfl rfl rfl fun g1 cap1 cur1 hG' => ?_ | refine s_app2 hO rfl rfl rfl uSlI64 iI64 rfl (by omega) (by simp) (by simp) rfl (by simp [Value.oneCell']) (by unfold maxLen; omega) (by omega) rfl rfl rfl fun g2 cap2 cur2 hO' => ?_ | refine zsv (r_len tb rfl rfl rfl) ?_) | (refine s_k 34 rfl ?_; refine zsv (r_extractL rfl rfl rfl) ?_) | (refine s_k 6 rfl ?_; first | refine s_bsl rfl rfl (fun w => slGt1 _ _ _ _ _ _ _ w) rfl rfl rfl fun blk => ?_ | refine s_bsl rfl rfl (fun w => slI1 _ w) rfl rfl rfl fun blk => ?_) | refine s_nil ?_) | (refine c_g ?_; first | refine c_seq ?_ | refine c_region ?_ | (refine c_gc ?_; first | refine c_cond1 rfl zTr ?_ | refine c_cond0 rfl zTr ?_) | refine c_block ?_ | refine c_skip ?_ | refine c_exit ?_ | refine c_ret ?_) | (refine e_g ?_; first | refine e_then ?_ | refine e_blkn ?_ | refine e_thenx ?_ | refine e_thenr ?_ | refine e_blkr ?_ | refine e_blkx ?_ | refine e_blky rfl ?_) | (refine x_g ?_; first | (refine x_k 0 rfl ?_; (refine zxv (r_move rfl rfl) ?hp ?_; (case hp => exact rfl))) | (refine x_k 8 rfl ?_; first | (refine zxv (r_ldo rfl rfl hg (by simp) (ldvM tb rfl hfit hxe)) ?hp ?_; (case hp => exact rfl)) | (refine' x_val rfl rfl rfl (r_ldv rfl rfl ?qm ?qv) ?hp ?_; (case qm => (exact zMm)); (case qv => (exact zLe)); (case hp => exact rfl)) | (refine' x_val rfl rfl rfl (r_ldo rfl rfl ?qw (by simp) ?qv) ?hp ?_; (case qw => assumption); (case qv => (exact zLe)); (case hp => exact rfl))) | (refine x_k 1 rfl ?_; (refine zxv (r_assign rfl rfl) ?hp ?_; (case hp => exact rfl))) | (refine x_k 13 rfl ?_; first | (refine zxv (r_lss rfl rfl rfl) ?hp ?_; (case hp => exact rfl)) | (refine zxv (r_add rfl rfl rfl zWr) ?hp ?_; (case hp => exact rfl))) | (refine x_k 35 rfl ?_; (refine x_call Try.func74 (by kernel_rfl) rfl rfl rfl rfl rfl rfl (fun w hL => hfe w) ?hp ?_; (case hp => exact rfl))) | (refine x_k 14 rfl ?_; (refine zxv (r_not rfl rfl) ?hp ?_; (case hp => exact rfl))) | (refine x_k 25 rfl ?_; first | (refine zxv (r_ixO tb rfl rfl rfl rfl hlt) ?hp ?_; (case hp => exact rfl)) | (refine zxv (r_ixN tb rfl rfl rfl rfl (by omega)) ?hp ?_; (case hp => exact rfl)) | (refine zxv (r_ixA tb rfl rfl rfl rfl (by omega) (by omega)) ?hp ?_; (case hp => exact rfl)) | (refine zxv (r_ixO tb rfl rfl rfl rfl (by omega)) ?hp ?_; (case hp => exact rfl))) | (refine x_k 4 rfl ?_; (refine x_boxA rfl rfl rfl rfl rfl ?hp (fun blk => ?_); (case hp => exact rfl))) | (refine x_k 9 rfl ?_; first | (refine' x_putA0 tb rfl rfl rfl rfl zSz ?qs zSz rfl rfl ?hp ?_; (case qs => (first | exact setP hcx (by first | rfl | assumption) | exact set_whole (vs := gtA g') rfl (by simp [gtA, Value.oneCell']) | exact zSet)); (case hp => exact rfl)) | (refine' x_putA1 tb rfl rfl rfl rfl zSz ?qs zSz rfl rfl ?hp ?_; (case qs => (first | exact setP hcx (by first | rfl | assumption) | exact set_whole (vs := gtA g') rfl (by simp [gtA, Value.oneCell']) | exact zSet)); (case hp => exact rfl)) | (refine' x_putA2 tb rfl rfl rfl rfl zSz ?qs zSz rfl rfl ?hp ?_; (case qs => (first | exact setP hcx (by first | rfl | assumption) | exact set_whole (vs := gtA g') rfl (by simp [gtA, Value.oneCell']) | exact zSet)); (case hp => exact rfl))) | (refine x_k 3 rfl ?_; first | (refine x_allocA (t := 36) rfl zImplPas rfl rfl rfl ?hp (fun blk => ?_); (case hp => exact rfl)) | (refine x_allocA (t := 68) rfl zImplGoat0 rfl rfl rfl ?hp (fun blk => ?_); (case hp => exact rfl))) | (refine x_k 36 rfl ?_; (refine zxv (r_len tb rfl rfl rfl) ?hp ?_; (case hp => exact rfl))) | (refine x_k 34 rfl ?_; (refine zxv (r_extractL rfl rfl rfl) ?hp ?_; (case hp => exact rfl))) | refine x_nil0 ?_ | refine x_nil ?_) | (refine' c_drawX (id := 8) [(.inl _ : zQ), (.inl _ : zQ), (.inl _ : zQ), (.inl _ : zQ), (.inl _ : zQ), (.inl _ : zQ), (.inl _ : zQ), (.inl _ : zQ), (.inl _ : zQ), (.inl _ : zQ), (Sum.inr (false, _, _) : zQ), (Sum.inr (false, _, _) : zQ), (Sum.inr (true, _, _) : zQ), (Sum.inr (true, _, _) : zQ), (.inl _ : zQ)] (by kernel_rfl) (by kernel_rfl) (by kernel_rfl) ?_) | (refine e_drop0 (e_drop0 (e_round (k + 1, g1, cap1, cur1, g2, cap2, cur2, cx) (by simp; omega) ⟨by simp; omega, by simp only [hS1, hts, List.map_append, List.flatten_append]; simpa [Gt.cells] using hG', by simp only [hS1]; simpa using hO', by simp only [hS1]; exact hcx⟩ ?_ rfl))))
    all_goals first | ((repeat' (first | exact sub_nil | refine sub_cons rfl ?_)); done)
  · have hkl : k = L.length := by omega
    subst hkl
    obtain rfl := hc.uniq hc'
    have hsc := hc.size
    rw [List.take_of_length_le (by rw [hT12.lL]; exact Nat.le_refl _)] at hG
    repeat' (first | (refine s_g ?_; first | (refine s_k 0 rfl ?_; refine zsv (r_move rfl rfl) ?_) | (refine s_k 8 rfl ?_; first | (refine' s_val rfl rfl rfl (r_ldv rfl rfl ?qm ?qv) ?_; (case qm => (exact zMm)); (case qv => (exact zLe))) | (refine' s_val rfl rfl rfl (r_ldo rfl rfl ?qw (by simp) ?qv) ?_; (case qw => assumption); (case qv => (exact zLe)))) | (refine s_k 1 rfl ?_; refine zsv (r_assign rfl rfl) ?_) | (refine s_k 13 rfl ?_; first | refine zsv (r_lss rfl rfl rfl) ?_ | refine zsv (r_add rfl rfl rfl zWr) ?_) | (refine s_k 14 rfl ?_; refine zsv (r_not rfl rfl) ?_) | (refine s_k 25 rfl ?_; first | refine zsv (r_ixN tb rfl rfl rfl rfl (by omega)) ?_ | refine zsv (r_ixA tb rfl rfl rfl rfl (by omega) (by omega)) ?_ | refine zsv (r_ixO tb rfl rfl rfl rfl (by omega)) ?_) | (refine s_k 4 rfl ?_; first | refine s_boxA rfl rfl rfl rfl rfl fun blk => ?_ | refine s_box1 rfl rfl rfl rfl rfl rfl fun blk => ?_) | (refine s_k 9 rfl ?_; (first | refine s_st1 tb rfl rfl rfl rfl rfl rfl rfl rfl ?_ | refine s_stA tb rfl rfl rfl rfl zSz rfl rfl ?_); (first | refine' st0 ?qs ?_ | refine' st1 ?qs ?_ | refine' st2 ?qs ?_ | refine' st3 ?qs ?_ | refine' st4 ?qs ?_ | refine' st5 ?qs ?_ | refine' st6 ?qs ?_ | refine' st7 ?qs ?_ | refine' st8 ?qs ?_ | refine' st9 ?qs ?_ | refine' st10 ?qs ?_ | refine' st11 ?qs ?_); (case qs => (first | exact setP hc rfl | exact zSet))) | (refine s_k 36 rfl ?_; refine zsv (r_len tb rfl rfl rfl) ?_) | (refine s_k 34 rfl ?_; refine zsv (r_extractL rfl rfl rfl) ?_) | refine s_nil ?_) | (refine c_g ?_; first | refine c_seq ?_ | refine c_region ?_ | (refine c_gc ?_; first | refine c_cond1 rfl zTr ?_ | refine c_cond0 rfl zTr ?_) | refine c_block ?_ | refine c_skip ?_ | refine c_exit ?_ | refine c_ret ?_) | (refine e_g ?_; first | refine e_then ?_ | refine e_blkn ?_ | refine e_thenx ?_ | refine e_thenr ?_ | refine e_blkr ?_ | refine e_blkx ?_ | refine e_blky rfl ?_) | (refine e_ret4 (by simp) rfl (re_cell tb rfl m2 rfl zSz) (re_tmp rfl) (re_tmp rfl) (re_tmp rfl) fun w hL => NewF.of (i := 1) (j := 0) hG hO hL rfl rfl (by omega)))
section
variable (p : Nat → Int) (cs : Array Value) (L : List Gt) (g n cap : Nat) (cur : Array Value) (w : World)
end
end Go.Proofs.Ytnfdefeafhepkaa
