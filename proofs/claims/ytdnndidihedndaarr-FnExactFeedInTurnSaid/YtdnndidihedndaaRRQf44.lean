import Derived.Test.YtdnndidihedndaaRRQf43
/- One goat is fed; FeedGoat: both functions. No condition. -/
namespace Go.Proofs.YtdnndidihedndaaRR
set_option linter.unusedVariables false
set_option linter.unusedSimpArgs false
open Go.RowKit Mem Wk
attribute [local irreducible] Calls Wk.S Wk.C Wk.E Wk.X Wk.T Wk.Y Wk.Z Wk.andV Wk.shrV Calm.wpLex CalmB.wpLex CalmE.wpLex bfsN
theorem s_callW5_0 {P : Program} {ops : Array Oper} {Q : Exit → Act → World → Prop} {n : Nat} {O : List Nat} {w0 : World} {o : Oper} {rest : List Oper} {l : List (Nat × Value)} {L : List (Nat × TypeId × Array Value)} {b1 b2 b3 b4 : Nat × TypeId × Array Value} {g1 g2 : Nat} {T1 T2 Te : TypeId} {c1 c2 ce : Array Value} {f : FuncId} {fn : Func} {xs : Array Operand} {ts : Array TypeId} {vs : List Value} {d : Nat} {vf : Nat → Value} {Pf : Array Value → Array Value → Prop} (hf : P.funcs[f]? = some fn) (hname : (fn.name == "runtime.NumGoroutine") = false) (hb : fn.body.isSome = true) (hg : o.guard = none) (hd : o.dst = some d) (hn : Nat.blt d n = true) (hop : o.op = .call { callee := .value (.func f), args := xs, argTypes := ts }) (hargs : evs l xs.toList = some vs) (hc : ∀ w, Kn O w0 w ((g2, T2, c2) :: b1 :: b2 :: b3 :: b4 :: (g1, T1, c1) :: L) → Calls P f vs.toArray w fun e w' => ∃ ge d1 d2, e = .returned (vf ge) ∧ Pf d1 d2 ∧ Upd2 w w' g1 T1 d1 g2 T2 d2 ∧ w.heap.size ≤ ge ∧ w'.heap[ge]? = some (.cells ce Te (0, 0))) (h : ∀ ge d1 d2, Pf d1 d2 → S P ops Q n O w0 rest ((d, vf ge) :: l) ((ge, Te, ce) :: (g2, T2, d2) :: b1 :: b2 :: b3 :: b4 :: (g1, T1, d1) :: L)) : S P ops Q n O w0 (o :: rest) l ((g2, T2, c2) :: b1 :: b2 :: b3 :: b4 :: (g1, T1, c1) :: L) := s_callR (ι := Nat × Array Value × Array Value) (fun i => Pf i.2.1 i.2.2) (fun i => vf i.1) (fun i => (i.1, Te, ce) :: (g2, T2, i.2.2) :: b1 :: b2 :: b3 :: b4 :: (g1, T1, i.2.1) :: L) hf hname hb hg hd hn hop hargs (fun w hL => (hc w hL).mono fun e w' ⟨ge, d1, d2, he, hP, hu, h1, h2⟩ => ⟨(ge, d1, d2), hP, he, Kn.comp (i := 5) (j := 0) hL rfl rfl (by omega) hu h1 h2⟩) (fun i hi => h i.1 i.2.1 i.2.2 hi)
/-- one goat after k bites -/
def f1S (p : Nat → Int) (g : Gt) (k : Nat) : Fd := fdT 1 ⟨p, [g], List.replicate 1 0⟩ k
def f1G (p : Nat → Int) (g : Gt) (k : Nat) : Gt := (f1S p g k).L.getD 0 gtO
def f1E (p : Nat → Int) (g : Gt) (k : Nat) : Int := (f1S p g k).E.getD 0 0
theorem one_list {α : Type} {l : List α} {z : α} (h : l.length = 1) : l = [l.getD 0 z] := by
  match l, h with
  | [a], _ => rfl
theorem f1_ok {p : Nat → Int} {cs : Array Value} {g : Gt} (hp : Pv p cs) (hon : GtOn p g) (h0 : 0 ≤ g.eats) (h1 : g.eats ≤ 100) : FdOk 1 0 ⟨p, [g], List.replicate 1 0⟩ :=
  ⟨rfl, rfl, fun i d hd => by
    match i with
    | 0 => simp at hd; subst hd; exact ⟨hon, h0, h1⟩
    | i + 1 => simp at hd, fun i d e hd he => by
    match i with
    | 0 => simp at hd he; subst hd; subst he; omega
    | i + 1 => simp at hd⟩
theorem f1_eq {p : Nat → Int} {cs : Array Value} {g : Gt} (hp : Pv p cs) (hon : GtOn p g) (h0 : 0 ≤ g.eats) (h1 : g.eats ≤ 100) (k : Nat) : FdOk 1 k (f1S p g k) ∧ FdPv (f1S p g k) ∧ (f1S p g k).L = [f1G p g k] ∧ (f1S p g k).E = [f1E p g k] := by
  have h := fdT_ok (by omega) (f1_ok hp hon h0 h1) ⟨cs, hp⟩ k
  exact ⟨h.1, h.2, one_list h.1.lL, one_list h.1.lE⟩
theorem f1_step {p : Nat → Int} {cs c : Array Value} {g : Gt} (hp : Pv p cs) (hon : GtOn p g) (h0 : 0 ≤ g.eats) (h1 : g.eats ≤ 100) (k : Nat) (hc : Pv (f1S p g k).p c) : GtOn (f1S p g k).p (f1G p g k) ∧ f1E p g k ≤ (f1G p g k).eats ∧ -(40000 * (k : Int)) ≤ f1E p g k ∧ (0 ≤ (f1G p g k).eats ∧ (f1G p g k).eats ≤ 100) ∧ (f1S p g (k + 1)).p = bitP (f1S p g k).p (f1G p g k) ((f1G p g k).eats - f1E p g k) ∧ f1G p g (k + 1) = bitG (f1S p g k).p (f1G p g k) ((f1G p g k).eats - f1E p g k) ∧ f1E p g (k + 1) = f1E p g k + bitM (f1S p g k).p (f1G p g k) ((f1G p g k).eats - f1E p g k) := by
  obtain ⟨hok, _, hL, hE⟩ := f1_eq hp hon h0 h1 k
  have hg : (f1S p g k).L[0]? = some (f1G p g k) := by rw [hL]; rfl
  have he : (f1S p g k).E[0]? = some (f1E p g k) := by rw [hE]; rfl
  have hst := (hok.step hc hg he).1
  have e : f1S p g (k + 1) = fdStep 0 (f1S p g k) := by
    show fdStep (k % 1) _ = _
    rw [Nat.mod_one]; rfl
  obtain ⟨q1, q2, q3⟩ := hok.on 0 _ hg
  obtain ⟨r1, r2⟩ := hok.le 0 _ _ hg he
  refine ⟨q1, r1, r2, ⟨q2, q3⟩, by rw [e, hst], ?_, ?_⟩
  · show (f1S p g (k + 1)).L.getD 0 gtO = _
    rw [e, hst, hL]; rfl
  · show (f1S p g (k + 1)).E.getD 0 0 = _
    rw [e, hst, hE]; rfl
theorem gtC_on {p : Nat → Int} {g : Gt} (hs : g.ok) (h : gtC p g = 0) : GtOn p g ∧ 0 ≤ g.eats ∧ g.eats ≤ 100 := by
  unfold gtC at h
  split at h
  · rename_i h1
    simp only [Bool.and_eq_true] at h1
    exact goatOk_on hs h1.1 h1.2
  · cases h
set_option maxRecDepth 100000 in
set_option maxHeartbeats 4000000 in
theorem l02Feed_any (p : Nat → Int) (cs c' : Array Value) (g : Gt) (w : World) (hp : Pv p cs) (hon : GtOn p g) (h0 : 0 ≤ g.eats) (h1 : g.eats ≤ 100) (hc' : Pv (f1S p g 12).p c') :
    Calls Try.prog 178 #[.agg cs, .agg #[.int .i8 g.x, .int .i8 g.y, .int .i8 g.u, .int .i8 g.v, .int .i16 g.rope, .int .i16 g.eats, .int .i8 g.likes]] w fun e w' => e = .returned (.tuple #[.agg c', .agg (gtA (f1G p g 12)), .int .i64 (f1E p g 12)]) ∧ Below w.heap.size w w' := by
  have hstep := fun k c hc => f1_step (c := c) hp hon h0 h1 k hc
  have hz0 : (f1S p g 0).p = p := rfl
  have hz1 : f1G p g 0 = g := rfl
  have hz2 : f1E p g 0 = 0 := rfl
  generalize hSS : f1S p g = S at *
  generalize f1G p g = G at *
  generalize f1E p g = E at *
  refine enter2 Try.func178 rfl rfl rfl (Own.start w) ?_
  repeat' (first
    | (refine s_g ?_; first
      | (refine s_k 0 rfl ?_; refine s_val rfl rfl rfl (r_move rfl rfl) ?_)
      | (refine s_k 23 rfl ?_; first | refine s_val rfl rfl rfl (r_field tb rfl rfl rfl) ?_ | refine s_val rfl rfl rfl (r_fieldS tb rfl rfl rfl) ?_)
      | (refine s_k 8 rfl ?_; first | (refine' s_val rfl rfl rfl (r_ldv rfl rfl ?qm ?qv) ?_; (case qm => (exact zMm)); (case qv => (exact zLe))) | (refine' s_val rfl rfl rfl (r_ldo rfl rfl ?qw (by simp) ?qv) ?_; (case qw => assumption); (case qv => (exact zLe))))
      | (refine s_k 1 rfl ?_; refine s_val rfl rfl rfl (r_assign rfl rfl) ?_)
      | (refine s_k 13 rfl ?_; first | refine s_val rfl rfl rfl (r_lss rfl rfl rfl) ?_ | refine s_val rfl rfl rfl (r_add rfl rfl rfl (wrap_in (by simp only [lo, hi]; omega))) ?_ | refine s_val rfl rfl rfl (r_sub rfl rfl rfl (wrap_in (by simp only [lo, hi]; omega))) ?_)
      | (refine s_k 15 rfl ?_; refine s_val rfl rfl rfl (r_conv tb rfl rfl rfl rfl (wrap_in (by simp only [lo, hi]; omega))) ?_)
      | (refine s_k 4 rfl ?_; first | refine s_boxA rfl rfl rfl rfl rfl fun blk => ?_ | refine s_box1 rfl rfl rfl rfl rfl rfl fun blk => ?_)
      | (refine s_k 9 rfl ?_; (first | refine s_st1 tb rfl rfl rfl rfl rfl rfl rfl rfl ?_ | refine s_stA tb rfl rfl rfl rfl (by first | rfl | assumption | (apply Pv.size; assumption)) rfl rfl ?_); (first | refine' st0 ?qs ?_ | refine' st1 ?qs ?_ | refine' st2 ?qs ?_ | refine' st3 ?qs ?_ | refine' st4 ?qs ?_ | refine' st5 ?qs ?_ | refine' st6 ?qs ?_ | refine' st7 ?qs ?_ | refine' st8 ?qs ?_ | refine' st9 ?qs ?_ | refine' st10 ?qs ?_ | refine' st11 ?qs ?_); (case qs => (first | exact zSet)))
      | (refine s_k 3 rfl ?_; first | refine s_allocA (t := 34) rfl zImplPas rfl rfl rfl fun blk => ?_ | refine s_allocA (t := 103) rfl zImplGoat0 rfl rfl rfl fun blk => ?_)
      | (refine s_k 34 rfl ?_; refine s_val rfl rfl rfl (r_extractL rfl rfl rfl) ?_)
      | refine s_nil ?_)
    | (refine c_g ?_; first | refine c_seq ?_ | refine c_region ?_ | (refine c_gc ?_; first | refine c_cond1 rfl zTr ?_ | refine c_cond0 rfl zTr ?_ | refine z_condd1 rfl ?_ | refine z_condd0 rfl ?_ | refine z_conddn1 rfl ?_ | refine z_conddn0 rfl ?_ | refine c_condd rfl (fun hc => ?_) (fun hc => ?_) | refine c_conddn rfl (fun hc => ?_) (fun hc => ?_) | refine c_condn rfl (fun hc => ?_) (fun hc => ?_) | refine c_cond rfl (fun hc => ?_) (fun hc => ?_)) | refine c_block ?_ | refine c_skip ?_ | refine c_exit ?_ | refine c_ret ?_)
    | (refine e_g ?_; first | refine e_then ?_ | refine e_blkn ?_ | refine e_thenx ?_ | refine e_thenr ?_ | refine e_blkr ?_ | refine e_blkx ?_ | refine e_blky rfl ?_))
  rename_i b2 b3 b4
  refine c_loop (ι := Nat × Array Value) (fun i => 12 - i.1) (fun i => i.1 ≤ 12 ∧ Pv (S i.1).p i.2) (fun i => [(8, .int .i64 (i.1 : Int)), (7, .int .i64 (E i.1)), (2, .pointer (some ⟨b2, 0, none⟩)), (3, .pointer (some ⟨b3, 0, none⟩)), (4, .pointer (some ⟨b4, 0, none⟩)), (5, .pointer (some ⟨blk, 0, none⟩))]) (fun i => [(blk, 103, #[.int .i8 0, .int .i8 0, .int .i8 0, .int .i8 0, .int .i16 0, .int .i16 0, .int .i8 0]), (b4, 34, zP), (b3, 103, gtA (G i.1)), (b2, 34, i.2)]) (0, cs) ⟨by simp, by rw [hz0]; exact hp⟩ ?hs ?hL ?_
  case hs => simp only [hz2]; (repeat' (first | exact sub_nil | refine sub_cons rfl ?_))
  case hL => simp only [hz1]; rfl
  rintro ⟨k, c⟩ ⟨hk, hc⟩
  simp only at hk hc ⊢
  by_cases hlt : k < 12
  · obtain ⟨q1, q2, q3, ⟨q4, q5⟩, e1, e2, e3⟩ := hstep k c hc
    obtain ⟨cx, hcx⟩ := bitP_ex (h := (G k).eats - E k) hc q1
    have hm := bitM_ge (h := (G k).eats - E k) hc q1 (by omega)
    have hbite := fun w => l02Bite_any (S k).p c cx (G k) ((G k).eats - E k) w hc q1 (by omega) hcx
    rw [← e1] at hcx
    rw [← e2] at hbite
    have hsc := hc.size
    have hscx := hcx.size
    have h5 : (gtA (G k))[0 + 5]? = some (.int .i16 (G k).eats) := rfl
    have hgs : (gtA (G (k + 1))).size = 7 := rfl
    have hgs0 : (gtA (G k)).size = 7 := rfl
    have hk12 : (k : Int) < 12 := by omega
    generalize hmm : bitM (S k).p (G k) ((G k).eats - E k) = m at *
    repeat' (first
      | (refine s_g ?_; first
      | (refine s_k 0 rfl ?_; refine s_val rfl rfl rfl (r_move rfl rfl) ?_)
      | (refine s_k 23 rfl ?_; first | refine s_val rfl rfl rfl (r_field tb rfl rfl rfl) ?_ | refine s_val rfl rfl rfl (r_fieldS tb rfl rfl rfl) ?_)
      | (refine s_k 8 rfl ?_; first | (refine' s_val rfl rfl rfl (r_ldv rfl rfl ?qm ?qv) ?_; (case qm => (exact zMm)); (case qv => (first | exact ldvL tb rfl rfl | exact ldv1 tb rfl (by assumption) | exact ldv1 tb rfl (h5) | exact zLd))) | (refine' s_val rfl rfl rfl (r_ldo rfl rfl ?qw (by simp) ?qv) ?_; (case qw => assumption); (case qv => (first | exact ldvL tb rfl rfl | exact ldv1 tb rfl (by assumption) | exact ldv1 tb rfl (h5) | exact zLd))))
      | (refine s_k 1 rfl ?_; refine s_val rfl rfl rfl (r_assign rfl rfl) ?_)
      | (refine s_k 13 rfl ?_; first | refine s_val rfl rfl rfl (r_lss rfl rfl rfl) ?_ | refine s_val rfl rfl rfl (r_add rfl rfl rfl (wrap_in (by simp only [lo, hi]; omega))) ?_ | refine s_val rfl rfl rfl (r_sub rfl rfl rfl (wrap_in (by simp only [lo, hi]; omega))) ?_)
      | (refine s_k 35 rfl ?_; (refine s_call Try.func183 (by kernel_rfl) rfl rfl rfl rfl rfl rfl (fun w hL => hbite w) ?_))
      | (refine s_k 15 rfl ?_; refine s_val rfl rfl rfl (r_conv tb rfl rfl rfl rfl (wrap_in (by simp only [lo, hi]; omega))) ?_)
      | (refine s_k 4 rfl ?_; first | refine s_boxA rfl rfl rfl rfl rfl fun blk => ?_ | refine s_box1 rfl rfl rfl rfl rfl rfl fun blk => ?_)
      | (refine s_k 9 rfl ?_; (first | refine s_st1 tb rfl rfl rfl rfl rfl rfl rfl rfl ?_ | refine s_stA tb rfl rfl rfl rfl (by first | rfl | assumption | (apply Pv.size; assumption)) rfl rfl ?_); (first | refine' st0 ?qs ?_ | refine' st1 ?qs ?_ | refine' st2 ?qs ?_ | refine' st3 ?qs ?_ | refine' st4 ?qs ?_ | refine' st5 ?qs ?_ | refine' st6 ?qs ?_ | refine' st7 ?qs ?_ | refine' st8 ?qs ?_ | refine' st9 ?qs ?_ | refine' st10 ?qs ?_ | refine' st11 ?qs ?_); (case qs => (first | exact setP hcx (by first | rfl | assumption) | exact set_whole (vs := gtA (G (k + 1))) rfl (by simp [gtA, Value.oneCell']) | exact zSet)))
      | (refine s_k 3 rfl ?_; first | refine s_allocA (t := 34) rfl zImplPas rfl rfl rfl fun blk => ?_ | refine s_allocA (t := 103) rfl zImplGoat0 rfl rfl rfl fun blk => ?_)
      | (refine s_k 34 rfl ?_; refine s_val rfl rfl rfl (r_extractL rfl rfl rfl) ?_)
      | refine s_nil ?_)
      | (refine c_g ?_; first | refine c_seq ?_ | refine c_region ?_ | (refine c_gc ?_; first | refine c_cond1 rfl zTr ?_ | refine c_cond0 rfl zTr ?_ | refine z_condd1 rfl ?_ | refine z_condd0 rfl ?_ | refine z_conddn1 rfl ?_ | refine z_conddn0 rfl ?_ | refine c_condd rfl (fun hc => ?_) (fun hc => ?_) | refine c_conddn rfl (fun hc => ?_) (fun hc => ?_) | refine c_condn rfl (fun hc => ?_) (fun hc => ?_) | refine c_cond rfl (fun hc => ?_) (fun hc => ?_)) | refine c_block ?_ | refine c_skip ?_ | refine c_exit ?_ | refine c_ret ?_)
      | (refine e_g ?_; first | refine e_then ?_ | refine e_blkn ?_ | refine e_thenx ?_ | refine e_thenr ?_ | refine e_blkr ?_ | refine e_blkx ?_ | refine e_blky rfl ?_)
      | (refine e_drop0 (e_drop0 (e_round (k + 1, cx) (by simp; omega) ⟨by simp; omega, hcx⟩ ?_ rfl))))
    all_goals (rw [e3]; (repeat' (first | exact sub_nil | refine sub_cons rfl ?_)))
  · have hk12 : k = 12 := by omega
    subst hk12
    obtain rfl := hc.uniq hc'
    have hsc := hc.size
    repeat' (first
      | (refine s_g ?_; first
      | (refine s_k 0 rfl ?_; refine s_val rfl rfl rfl (r_move rfl rfl) ?_)
      | (refine s_k 23 rfl ?_; first | refine s_val rfl rfl rfl (r_field tb rfl rfl rfl) ?_ | refine s_val rfl rfl rfl (r_fieldS tb rfl rfl rfl) ?_)
      | (refine s_k 8 rfl ?_; first | (refine' s_val rfl rfl rfl (r_ldv rfl rfl ?qm ?qv) ?_; (case qm => (exact zMm)); (case qv => (exact zLe))) | (refine' s_val rfl rfl rfl (r_ldo rfl rfl ?qw (by simp) ?qv) ?_; (case qw => assumption); (case qv => (exact zLe))))
      | (refine s_k 1 rfl ?_; refine s_val rfl rfl rfl (r_assign rfl rfl) ?_)
      | (refine s_k 13 rfl ?_; first | refine s_val rfl rfl rfl (r_lss rfl rfl rfl) ?_ | refine s_val rfl rfl rfl (r_add rfl rfl rfl (wrap_in (by simp only [lo, hi]; omega))) ?_ | refine s_val rfl rfl rfl (r_sub rfl rfl rfl (wrap_in (by simp only [lo, hi]; omega))) ?_)
      | (refine s_k 15 rfl ?_; refine s_val rfl rfl rfl (r_conv tb rfl rfl rfl rfl (wrap_in (by simp only [lo, hi]; omega))) ?_)
      | (refine s_k 4 rfl ?_; first | refine s_boxA rfl rfl rfl rfl rfl fun blk => ?_ | refine s_box1 rfl rfl rfl rfl rfl rfl fun blk => ?_)
      | (refine s_k 9 rfl ?_; (first | refine s_st1 tb rfl rfl rfl rfl rfl rfl rfl rfl ?_ | refine s_stA tb rfl rfl rfl rfl (by first | rfl | assumption | (apply Pv.size; assumption)) rfl rfl ?_); (first | refine' st0 ?qs ?_ | refine' st1 ?qs ?_ | refine' st2 ?qs ?_ | refine' st3 ?qs ?_ | refine' st4 ?qs ?_ | refine' st5 ?qs ?_ | refine' st6 ?qs ?_ | refine' st7 ?qs ?_ | refine' st8 ?qs ?_ | refine' st9 ?qs ?_ | refine' st10 ?qs ?_ | refine' st11 ?qs ?_); (case qs => (first | exact setP hc (by first | rfl | assumption) | exact set_whole (vs := gtA (G 12)) rfl (by simp [gtA, Value.oneCell']) | exact zSet)))
      | (refine s_k 34 rfl ?_; refine s_val rfl rfl rfl (r_extractL rfl rfl rfl) ?_)
      | refine s_nil ?_)
      | (refine c_g ?_; first | refine c_seq ?_ | refine c_region ?_ | (refine c_gc ?_; first | refine c_cond1 rfl zTr ?_ | refine c_cond0 rfl zTr ?_ | refine z_condd1 rfl ?_ | refine z_condd0 rfl ?_ | refine z_conddn1 rfl ?_ | refine z_conddn0 rfl ?_ | refine c_condd rfl (fun hc => ?_) (fun hc => ?_) | refine c_conddn rfl (fun hc => ?_) (fun hc => ?_) | refine c_condn rfl (fun hc => ?_) (fun hc => ?_) | refine c_cond rfl (fun hc => ?_) (fun hc => ?_)) | refine c_block ?_ | refine c_skip ?_ | refine c_exit ?_ | refine c_ret ?_)
      | (refine e_g ?_; first | refine e_then ?_ | refine e_blkn ?_ | refine e_thenx ?_ | refine e_thenr ?_ | refine e_blkr ?_ | refine e_blkx ?_ | refine e_blky rfl ?_)
      | (refine z_g ?_; first
      | (refine z_k 0 rfl ?_; (refine' z_val rfl rfl rfl ?hr ?hp ?_; (case hr => exact fun N hN => r_move rfl rfl); (case hp => exact rfl)))
      | (refine z_k 23 rfl ?_; first | (refine' z_val rfl rfl rfl ?hr ?hp ?_; (case hr => exact fun N hN => r_field tb rfl rfl rfl); (case hp => exact rfl)) | (refine' z_val rfl rfl rfl ?hr ?hp ?_; (case hr => exact fun N hN => r_fieldS tb rfl rfl rfl); (case hp => exact rfl)))
      | (refine z_k 8 rfl ?_; first | (refine' z_val rfl rfl rfl ?hr ?hp ?_; (case hr => (intro N hN; (refine' r_ldv rfl rfl ?qm ?qv; (case qm => (first | exact List.mem_append_right _ m0 | exact List.mem_append_right _ m1 | exact List.mem_append_right _ m2 | exact List.mem_append_right _ m3 | exact List.mem_append_right _ m4 | exact List.mem_append_right _ m5 | exact List.mem_append_right _ m6 | exact List.mem_append_right _ m7 | exact List.mem_append_right _ m8 | exact List.mem_append_right _ m9 | exact List.mem_append_right _ m10 | exact List.mem_append_right _ m11)); (case qv => (exact zLe))))); (case hp => exact rfl)) | (refine' z_val rfl rfl rfl ?hr ?hp ?_; (case hr => (intro N hN; (refine' r_ldo rfl rfl ?qw (by simp) ?qv; (case qw => assumption); (case qv => (exact zLe))))); (case hp => exact rfl)))
      | (refine z_k 1 rfl ?_; (refine' z_val rfl rfl rfl ?hr ?hp ?_; (case hr => exact fun N hN => r_assign rfl rfl); (case hp => exact rfl)))
      | (refine z_k 13 rfl ?_; first | (refine' z_val rfl rfl rfl ?hr ?hp ?_; (case hr => exact fun N hN => r_lss rfl rfl rfl); (case hp => exact rfl)) | (refine' z_add rfl rfl rfl rfl rfl rfl (wrap_in (by simp only [lo, hi]; omega)) ?hp ?_; (case hp => exact rfl)) | (refine' z_sub rfl rfl rfl rfl rfl rfl (wrap_in (by simp only [lo, hi]; omega)) ?hp ?_; (case hp => exact rfl)))
      | (refine z_k 15 rfl ?_; (refine' z_conv tb rfl rfl rfl rfl rfl rfl rfl (wrap_in (by simp only [lo, hi]; omega)) ?hp ?_; (case hp => exact rfl)))
      | (refine z_k 9 rfl ?_; first | (refine' z_put (i := 0) tb rfl rfl rfl rfl rfl rfl rfl (by first | rfl | assumption | (apply Pv.size; assumption)) rfl ?qs rfl ?hok ?hp ?_; (case qs => (first | exact setP hc (by first | rfl | assumption) | exact set_whole (vs := gtA (G 12)) rfl (by simp [gtA, Value.oneCell']) | exact zSet)); (case hok => (first | exact trivial | (assumption))); (case hp => exact rfl)) | (refine' z_put (i := 1) tb rfl rfl rfl rfl rfl rfl rfl (by first | rfl | assumption | (apply Pv.size; assumption)) rfl ?qs rfl ?hok ?hp ?_; (case qs => (first | exact setP hc (by first | rfl | assumption) | exact set_whole (vs := gtA (G 12)) rfl (by simp [gtA, Value.oneCell']) | exact zSet)); (case hok => (first | exact trivial | (assumption))); (case hp => exact rfl)) | (refine' z_put (i := 2) tb rfl rfl rfl rfl rfl rfl rfl (by first | rfl | assumption | (apply Pv.size; assumption)) rfl ?qs rfl ?hok ?hp ?_; (case qs => (first | exact setP hc (by first | rfl | assumption) | exact set_whole (vs := gtA (G 12)) rfl (by simp [gtA, Value.oneCell']) | exact zSet)); (case hok => (first | exact trivial | (assumption))); (case hp => exact rfl)) | (refine' z_put (i := 3) tb rfl rfl rfl rfl rfl rfl rfl (by first | rfl | assumption | (apply Pv.size; assumption)) rfl ?qs rfl ?hok ?hp ?_; (case qs => (first | exact setP hc (by first | rfl | assumption) | exact set_whole (vs := gtA (G 12)) rfl (by simp [gtA, Value.oneCell']) | exact zSet)); (case hok => (first | exact trivial | (assumption))); (case hp => exact rfl)))
      | (refine z_k 34 rfl ?_; (refine' z_val rfl rfl rfl ?hr ?hp ?_; (case hr => exact fun N hN => r_extractL rfl rfl rfl); (case hp => exact rfl)))
      | refine z_nil ?_)
      | (refine' c_drawZ0_1 (id := 9) [false, false, false, true, true, false] (fun _ => True) [(Sum.inl _ : CalmE.Plan (List (Nat × TypeId × Array Value))), (Sum.inl _ : CalmE.Plan (List (Nat × TypeId × Array Value))), (Sum.inl _ : CalmE.Plan (List (Nat × TypeId × Array Value))), (Sum.inr _ : CalmE.Plan (List (Nat × TypeId × Array Value))), (Sum.inr _ : CalmE.Plan (List (Nat × TypeId × Array Value))), (Sum.inl _ : CalmE.Plan (List (Nat × TypeId × Array Value)))] (by kernel_rfl) (by kernel_rfl) (by kernel_rfl) (by simp only [CalmE.Agree, and_self, true_and, and_true]) (trivial) ?_)
      | (refine e_ret3 (by simp) rfl (re_cell tb rfl m1 rfl (by first | rfl | assumption | (apply Pv.size; assumption))) (re_cell tb rfl m0 rfl rfl) (re_tmp rfl) fun w hL => ⟨rfl, hL.toBelow⟩))
set_option maxRecDepth 100000 in
set_option maxHeartbeats 1600000 in
theorem specFeedGoat_no (p : Nat → Int) (cs : Array Value) (g : Gt) (w : World) (hp : Pv p cs) (hs : g.ok) (hg : ¬ gtC p g = 0) :
    Calls Try.prog 77 #[.agg cs, .agg #[.int .i8 g.x, .int .i8 g.y, .int .i8 g.u, .int .i8 g.v, .int .i16 g.rope, .int .i16 g.eats, .int .i8 g.likes]] w fun e w' => e = .returned (.tuple #[.agg zP, .agg #[.int .i8 0, .int .i8 0, .int .i8 0, .int .i8 0, .int .i16 0, .int .i16 0, .int .i8 0], .int .i64 0, .int .i64 (gtC p g)]) ∧ Below w.heap.size w w' := by
  have hsz := hp.size
  refine enter2 Try.func77 rfl rfl rfl (Own.start w) ?_
  repeat' (first
    | (refine s_g ?_; first
      | (refine s_k 0 rfl ?_; refine s_val rfl rfl rfl (r_move rfl rfl) ?_)
      | (refine s_k 8 rfl ?_; first | (refine' s_val rfl rfl rfl (r_ldv rfl rfl ?qm ?qv) ?_; (case qm => (exact zMm)); (case qv => (exact zLe))) | (refine' s_val rfl rfl rfl (r_ldo rfl rfl ?qw (by simp) ?qv) ?_; (case qw => assumption); (case qv => (exact zLe))))
      | (refine s_k 1 rfl ?_; refine s_val rfl rfl rfl (r_assign rfl rfl) ?_)
      | (refine s_k 13 rfl ?_; refine s_val rfl rfl rfl (r_neq rfl rfl rfl) ?_)
      | (refine s_k 35 rfl ?_; (refine s_call Try.func177 (by kernel_rfl) rfl rfl rfl rfl rfl rfl (fun w hL => l02One_any p cs _ _ _ _ g _ hp (hL.at_ m3) (hL.at_ m2) hs) ?_))
      | (refine s_k 4 rfl ?_; first | refine s_boxA rfl rfl rfl rfl rfl fun blk => ?_ | refine s_box1 rfl rfl rfl rfl rfl rfl fun blk => ?_)
      | (refine s_k 9 rfl ?_; (first | refine s_st1 tb rfl rfl rfl rfl rfl rfl rfl rfl ?_ | refine s_stA tb rfl rfl rfl rfl (by first | rfl | assumption | (apply Pv.size; assumption)) rfl rfl ?_); (first | refine' st0 ?qs ?_ | refine' st1 ?qs ?_ | refine' st2 ?qs ?_ | refine' st3 ?qs ?_ | refine' st4 ?qs ?_ | refine' st5 ?qs ?_ | refine' st6 ?qs ?_ | refine' st7 ?qs ?_ | refine' st8 ?qs ?_ | refine' st9 ?qs ?_ | refine' st10 ?qs ?_ | refine' st11 ?qs ?_); (case qs => (first | exact set_whole (vs := #[.int .i8 0, .int .i8 0, .int .i8 0, .int .i8 0, .int .i16 0, .int .i16 0, .int .i8 0]) rfl (by simp [Value.oneCell']) | exact zSet)))
      | (refine s_k 3 rfl ?_; first | refine s_allocA (t := 34) rfl zImplPas rfl rfl rfl fun blk => ?_ | refine s_allocA (t := 103) rfl zImplGoat0 rfl rfl rfl fun blk => ?_)
      | (refine s_k 34 rfl ?_; refine s_val rfl rfl rfl (r_extractL rfl rfl rfl) ?_)
      | (refine s_k 5 rfl ?_; first | refine s_val rfl rfl rfl (r_build rfl rfl (fun w => bPas0 w)) ?_ | refine s_val rfl rfl rfl (r_build rfl rfl (fun w => bGoat0 w)) ?_)
      | refine s_nil ?_)
    | (refine c_g ?_; first | refine c_seq ?_ | refine c_region ?_ | (refine c_gc ?_; first | refine c_cond1 rfl zTr ?_ | refine c_cond0 rfl zTr ?_ | refine z_condd1 rfl ?_ | refine z_condd0 rfl ?_ | refine z_conddn1 rfl ?_ | refine z_conddn0 rfl ?_ | refine c_condd rfl (fun hc => ?_) (fun hc => ?_) | refine c_conddn rfl (fun hc => ?_) (fun hc => ?_) | refine c_condn rfl (fun hc => ?_) (fun hc => ?_) | refine c_cond rfl (fun hc => ?_) (fun hc => ?_)) | refine c_block ?_ | refine c_skip ?_ | refine c_exit ?_ | refine c_ret ?_)
    | (refine e_g ?_; first | refine e_then ?_ | refine e_blkn ?_ | refine e_thenx ?_ | refine e_thenr ?_ | refine e_blkr ?_ | refine e_blkx ?_ | refine e_blky rfl ?_)
    | (refine e_ret4 (by simp) rfl (re_cell tb rfl m1 rfl rfl) (re_cell tb rfl m0 rfl rfl) (re_tmp rfl) (re_tmp rfl) fun w hL => ⟨rfl, hL.toBelow⟩))
set_option maxRecDepth 100000 in
set_option maxHeartbeats 1600000 in
theorem specFeedGoat_ok (p : Nat → Int) (cs c' : Array Value) (g : Gt) (w : World) (hp : Pv p cs) (hs : g.ok) (hg : gtC p g = 0) (hc' : Pv (f1S p g 12).p c') :
    Calls Try.prog 77 #[.agg cs, .agg #[.int .i8 g.x, .int .i8 g.y, .int .i8 g.u, .int .i8 g.v, .int .i16 g.rope, .int .i16 g.eats, .int .i8 g.likes]] w fun e w' => e = .returned (.tuple #[.agg c', .agg (gtA (f1G p g 12)), .int .i64 (f1E p g 12), .int .i64 0]) ∧ Below w.heap.size w w' := by
  have hsz := hp.size
  have hsz' := hc'.size
  obtain ⟨hon, q0, q1⟩ := gtC_on hs hg
  have hfeed := fun w => l02Feed_any p cs c' g w hp hon q0 q1 hc'
  generalize f1G p g 12 = g' at *
  generalize f1E p g 12 = e' at *
  generalize (f1S p g 12).p = q' at *
  have hgs : (gtA g').size = 7 := rfl
  refine enter2 Try.func77 rfl rfl rfl (Own.start w) ?_
  repeat' (first
    | (refine s_g ?_; first
      | (refine s_k 0 rfl ?_; refine s_val rfl rfl rfl (r_move rfl rfl) ?_)
      | (refine s_k 8 rfl ?_; first | (refine' s_val rfl rfl rfl (r_ldv rfl rfl ?qm ?qv) ?_; (case qm => (exact zMm)); (case qv => (exact zLe))) | (refine' s_val rfl rfl rfl (r_ldo rfl rfl ?qw (by simp) ?qv) ?_; (case qw => assumption); (case qv => (exact zLe))))
      | (refine s_k 1 rfl ?_; refine s_val rfl rfl rfl (r_assign rfl rfl) ?_)
      | (refine s_k 13 rfl ?_; refine s_val rfl rfl rfl (r_neq rfl rfl rfl) ?_)
      | (refine s_k 35 rfl ?_; first | (refine s_call Try.func177 (by kernel_rfl) rfl rfl rfl rfl rfl rfl (fun w hL => (by have q := l02One_any p cs _ _ _ _ g w hp (hL.at_ m3) (hL.at_ m2) hs; rw [hg] at q; exact q)) ?_) | (refine s_call Try.func178 (by kernel_rfl) rfl rfl rfl rfl rfl rfl (fun w hL => hfeed w) ?_))
      | (refine s_k 4 rfl ?_; first | refine s_boxA rfl rfl rfl rfl rfl fun blk => ?_ | refine s_box1 rfl rfl rfl rfl rfl rfl fun blk => ?_)
      | (refine s_k 9 rfl ?_; (first | refine s_st1 tb rfl rfl rfl rfl rfl rfl rfl rfl ?_ | refine s_stA tb rfl rfl rfl rfl (by first | rfl | assumption | (apply Pv.size; assumption)) rfl rfl ?_); (first | refine' st0 ?qs ?_ | refine' st1 ?qs ?_ | refine' st2 ?qs ?_ | refine' st3 ?qs ?_ | refine' st4 ?qs ?_ | refine' st5 ?qs ?_ | refine' st6 ?qs ?_ | refine' st7 ?qs ?_ | refine' st8 ?qs ?_ | refine' st9 ?qs ?_ | refine' st10 ?qs ?_ | refine' st11 ?qs ?_); (case qs => (first | exact setP hc' (by first | rfl | assumption) | exact set_whole (vs := gtA g') rfl (by simp [gtA, Value.oneCell']) | exact zSet)))
      | (refine s_k 3 rfl ?_; first | refine s_allocA (t := 34) rfl zImplPas rfl rfl rfl fun blk => ?_ | refine s_allocA (t := 103) rfl zImplGoat0 rfl rfl rfl fun blk => ?_)
      | (refine s_k 34 rfl ?_; refine s_val rfl rfl rfl (r_extractL rfl rfl rfl) ?_)
      | (refine s_k 5 rfl ?_; first | refine s_val rfl rfl rfl (r_build rfl rfl (fun w => bPas0 w)) ?_ | refine s_val rfl rfl rfl (r_build rfl rfl (fun w => bGoat0 w)) ?_)
      | refine s_nil ?_)
    | (refine c_g ?_; first | refine c_seq ?_ | refine c_region ?_ | (refine c_gc ?_; first | refine c_cond1 rfl zTr ?_ | refine c_cond0 rfl zTr ?_ | refine z_condd1 rfl ?_ | refine z_condd0 rfl ?_ | refine z_conddn1 rfl ?_ | refine z_conddn0 rfl ?_ | refine c_condd rfl (fun hc => ?_) (fun hc => ?_) | refine c_conddn rfl (fun hc => ?_) (fun hc => ?_) | refine c_condn rfl (fun hc => ?_) (fun hc => ?_) | refine c_cond rfl (fun hc => ?_) (fun hc => ?_)) | refine c_block ?_ | refine c_skip ?_ | refine c_exit ?_ | refine c_ret ?_)
    | (refine e_g ?_; first | refine e_then ?_ | refine e_blkn ?_ | refine e_thenx ?_ | refine e_thenr ?_ | refine e_blkr ?_ | refine e_blkx ?_ | refine e_blky rfl ?_)
    | (refine z_g ?_; first
      | (refine z_k 0 rfl ?_; (refine' z_val rfl rfl rfl ?hr ?hp ?_; (case hr => exact fun N hN => r_move rfl rfl); (case hp => exact rfl)))
      | (refine z_k 8 rfl ?_; first | (refine' z_val rfl rfl rfl ?hr ?hp ?_; (case hr => (intro N hN; (refine' r_ldv rfl rfl ?qm ?qv; (case qm => (first | exact List.mem_append_right _ m0 | exact List.mem_append_right _ m1 | exact List.mem_append_right _ m2 | exact List.mem_append_right _ m3 | exact List.mem_append_right _ m4 | exact List.mem_append_right _ m5 | exact List.mem_append_right _ m6 | exact List.mem_append_right _ m7 | exact List.mem_append_right _ m8 | exact List.mem_append_right _ m9 | exact List.mem_append_right _ m10 | exact List.mem_append_right _ m11)); (case qv => (exact zLe))))); (case hp => exact rfl)) | (refine' z_val rfl rfl rfl ?hr ?hp ?_; (case hr => (intro N hN; (refine' r_ldo rfl rfl ?qw (by simp) ?qv; (case qw => assumption); (case qv => (exact zLe))))); (case hp => exact rfl)))
      | (refine z_k 1 rfl ?_; (refine' z_val rfl rfl rfl ?hr ?hp ?_; (case hr => exact fun N hN => r_assign rfl rfl); (case hp => exact rfl)))
      | (refine z_k 13 rfl ?_; (refine' z_val rfl rfl rfl ?hr ?hp ?_; (case hr => exact fun N hN => r_neq rfl rfl rfl); (case hp => exact rfl)))
      | (refine z_k 9 rfl ?_; first | (refine' z_put (i := 0) tb rfl rfl rfl rfl rfl rfl rfl (by first | rfl | assumption | (apply Pv.size; assumption)) rfl ?qs rfl ?hok ?hp ?_; (case qs => (first | exact setP hc' (by first | rfl | assumption) | exact set_whole (vs := gtA g') rfl (by simp [gtA, Value.oneCell']) | exact zSet)); (case hok => (first | exact trivial | (assumption))); (case hp => exact rfl)) | (refine' z_put (i := 1) tb rfl rfl rfl rfl rfl rfl rfl (by first | rfl | assumption | (apply Pv.size; assumption)) rfl ?qs rfl ?hok ?hp ?_; (case qs => (first | exact setP hc' (by first | rfl | assumption) | exact set_whole (vs := gtA g') rfl (by simp [gtA, Value.oneCell']) | exact zSet)); (case hok => (first | exact trivial | (assumption))); (case hp => exact rfl)) | (refine' z_put (i := 2) tb rfl rfl rfl rfl rfl rfl rfl (by first | rfl | assumption | (apply Pv.size; assumption)) rfl ?qs rfl ?hok ?hp ?_; (case qs => (first | exact setP hc' (by first | rfl | assumption) | exact set_whole (vs := gtA g') rfl (by simp [gtA, Value.oneCell']) | exact zSet)); (case hok => (first | exact trivial | (assumption))); (case hp => exact rfl)) | (refine' z_put (i := 3) tb rfl rfl rfl rfl rfl rfl rfl (by first | rfl | assumption | (apply Pv.size; assumption)) rfl ?qs rfl ?hok ?hp ?_; (case qs => (first | exact setP hc' (by first | rfl | assumption) | exact set_whole (vs := gtA g') rfl (by simp [gtA, Value.oneCell']) | exact zSet)); (case hok => (first | exact trivial | (assumption))); (case hp => exact rfl)))
      | (refine z_k 34 rfl ?_; (refine' z_val rfl rfl rfl ?hr ?hp ?_; (case hr => exact fun N hN => r_extractL rfl rfl rfl); (case hp => exact rfl)))
      | refine z_nil ?_)
    | (refine' c_drawZ2_3 (id := 5) [false, false, false, true, true, false, false] (fun _ => True) [(Sum.inl _ : CalmE.Plan (List (Nat × TypeId × Array Value))), (Sum.inl _ : CalmE.Plan (List (Nat × TypeId × Array Value))), (Sum.inl _ : CalmE.Plan (List (Nat × TypeId × Array Value))), (Sum.inr _ : CalmE.Plan (List (Nat × TypeId × Array Value))), (Sum.inr _ : CalmE.Plan (List (Nat × TypeId × Array Value))), (Sum.inl _ : CalmE.Plan (List (Nat × TypeId × Array Value))), (Sum.inl _ : CalmE.Plan (List (Nat × TypeId × Array Value)))] (by kernel_rfl) (by kernel_rfl) (by kernel_rfl) (by simp only [CalmE.Agree, and_self, true_and, and_true]) (trivial) ?_)
    | (refine e_ret4 (by simp) rfl (re_cell tb rfl m1 rfl (by first | rfl | assumption | (apply Pv.size; assumption))) (re_cell tb rfl m0 rfl rfl) (re_tmp rfl) (re_tmp rfl) fun w hL => ⟨rfl, hL.toBelow⟩))
set_option maxRecDepth 100000 in
set_option maxHeartbeats 1600000 in
theorem implFeedGoat_no (p : Nat → Int) (cs : Array Value) (g : Gt) (w : World) (hp : Pv p cs) (hs : g.ok) (hg : ¬ gtC p g = 0) :
    Calls Try.prog 79 #[.agg cs, .agg #[.int .i8 g.x, .int .i8 g.y, .int .i8 g.u, .int .i8 g.v, .int .i16 g.rope, .int .i16 g.eats, .int .i8 g.likes]] w fun e w' => e = .returned (.tuple #[.agg zP, .agg #[.int .i8 0, .int .i8 0, .int .i8 0, .int .i8 0, .int .i16 0, .int .i16 0, .int .i8 0], .int .i64 0, .int .i64 (gtC p g)]) ∧ Below w.heap.size w w' := by
  have hsz := hp.size
  refine enter2 Try.func79 rfl rfl rfl (Own.start w) ?_
  repeat' (first
    | (refine s_g ?_; first
      | (refine s_k 0 rfl ?_; refine s_val rfl rfl rfl (r_move rfl rfl) ?_)
      | (refine s_k 8 rfl ?_; first | (refine' s_val rfl rfl rfl (r_ldv rfl rfl ?qm ?qv) ?_; (case qm => (exact zMm)); (case qv => (exact zLe))) | (refine' s_val rfl rfl rfl (r_ldo rfl rfl ?qw (by simp) ?qv) ?_; (case qw => assumption); (case qv => (exact zLe))))
      | (refine s_k 1 rfl ?_; refine s_val rfl rfl rfl (r_assign rfl rfl) ?_)
      | (refine s_k 13 rfl ?_; refine s_val rfl rfl rfl (r_neq rfl rfl rfl) ?_)
      | (refine s_k 35 rfl ?_; (refine s_call Try.func128 (by kernel_rfl) rfl rfl rfl rfl rfl rfl (fun w hL => goatCode1 hp hs (hL.at_ m0)) ?_))
      | (refine s_k 25 rfl ?_; first | refine s_val rfl rfl rfl (r_ixN tb rfl rfl rfl rfl (by omega)) ?_ | refine s_val rfl rfl rfl (r_ixA tb rfl rfl rfl rfl (by omega) (by omega)) ?_ | refine s_val rfl rfl rfl (r_ixO tb rfl rfl rfl rfl (by omega)) ?_)
      | (refine s_k 4 rfl ?_; first | refine s_boxA rfl rfl rfl rfl rfl fun blk => ?_ | refine s_box1 rfl rfl rfl rfl rfl rfl fun blk => ?_)
      | (refine s_k 9 rfl ?_; (first | refine s_st1 tb rfl rfl rfl rfl rfl rfl rfl rfl ?_ | refine s_stA tb rfl rfl rfl rfl (by first | rfl | assumption | (apply Pv.size; assumption)) rfl rfl ?_); (first | refine' st0 ?qs ?_ | refine' st1 ?qs ?_ | refine' st2 ?qs ?_ | refine' st3 ?qs ?_ | refine' st4 ?qs ?_ | refine' st5 ?qs ?_ | refine' st6 ?qs ?_ | refine' st7 ?qs ?_ | refine' st8 ?qs ?_ | refine' st9 ?qs ?_ | refine' st10 ?qs ?_ | refine' st11 ?qs ?_); (case qs => (first | exact set_whole (vs := #[.int .i8 0, .int .i8 0, .int .i8 0, .int .i8 0, .int .i16 0, .int .i16 0, .int .i8 0]) rfl (by simp [Value.oneCell']) | exact zSet)))
      | (refine s_k 3 rfl ?_; first | refine s_allocA (t := 34) rfl zImplPas rfl rfl rfl fun blk => ?_ | refine s_allocA (t := 103) rfl zImplGoat0 rfl rfl rfl fun blk => ?_)
      | (refine s_k 5 rfl ?_; first | refine s_val rfl rfl rfl (r_build rfl rfl (fun w => bPas0 w)) ?_ | refine s_val rfl rfl rfl (r_build rfl rfl (fun w => bGoat0 w)) ?_)
      | (refine s_k 6 rfl ?_; refine s_bsl rfl rfl (fun w => slGt1 _ _ _ _ _ _ _ w) rfl rfl rfl fun blk => ?_)
      | refine s_nil ?_)
    | (refine c_g ?_; first | refine c_seq ?_ | refine c_region ?_ | (refine c_gc ?_; first | refine c_cond1 rfl zTr ?_ | refine c_cond0 rfl zTr ?_ | refine z_condd1 rfl ?_ | refine z_condd0 rfl ?_ | refine z_conddn1 rfl ?_ | refine z_conddn0 rfl ?_ | refine c_condd rfl (fun hc => ?_) (fun hc => ?_) | refine c_conddn rfl (fun hc => ?_) (fun hc => ?_) | refine c_condn rfl (fun hc => ?_) (fun hc => ?_) | refine c_cond rfl (fun hc => ?_) (fun hc => ?_)) | refine c_block ?_ | refine c_skip ?_ | refine c_exit ?_ | refine c_ret ?_)
    | (refine e_g ?_; first | refine e_then ?_ | refine e_blkn ?_ | refine e_thenx ?_ | refine e_thenr ?_ | refine e_blkr ?_ | refine e_blkx ?_ | refine e_blky rfl ?_)
    | (refine e_ret4 (by simp) rfl (re_cell tb rfl m2 rfl rfl) (re_cell tb rfl m1 rfl rfl) (re_tmp rfl) (re_tmp rfl) fun w hL => ⟨rfl, hL.toBelow⟩))
theorem GtIn.one {g : Gt} {cu : Array Value} (h : GtIn [g] 0 cu) (hs : cu.size = 7) : cu = gtA g := by
  have e := h.ext (i := 0) rfl
  have e2 : cu.extract (0 + 0 * 7) (0 + 0 * 7 + 7) = cu := by apply Array.ext_getElem?; intro j; rw [Array.getElem?_extract]; split; (· simp); (· rw [Array.getElem?_eq_none]; omega)
  rw [← e, e2]
theorem gtIn_lit (g : Gt) : GtIn [g] 0 #[.int .i8 g.x, .int .i8 g.y, .int .i8 g.u, .int .i8 g.v, .int .i16 g.rope, .int .i16 g.eats, .int .i8 g.likes] := fun i d hd j hj => by
  match i with
  | 0 => simp at hd; subst hd; unfold Gt.cells; simp
  | i + 1 => simp at hd
set_option maxRecDepth 100000 in
set_option maxHeartbeats 1600000 in
theorem implFeedGoat_ok (p : Nat → Int) (cs c' : Array Value) (g : Gt) (w : World) (hp : Pv p cs) (hs : g.ok) (hg : gtC p g = 0) (hc' : Pv (f1S p g 12).p c') :
    Calls Try.prog 79 #[.agg cs, .agg #[.int .i8 g.x, .int .i8 g.y, .int .i8 g.u, .int .i8 g.v, .int .i16 g.rope, .int .i16 g.eats, .int .i8 g.likes]] w fun e w' => e = .returned (.tuple #[.agg c', .agg (gtA (f1G p g 12)), .int .i64 (f1E p g 12), .int .i64 0]) ∧ Below w.heap.size w w' := by
  have hsz := hp.size
  have hsz' := hc'.size
  obtain ⟨hon, q0, q1⟩ := gtC_on hs hg
  obtain ⟨_, _, hL1, hE1⟩ := f1_eq hp hon q0 q1 12
  have hfe := fun w gp gl cap hne hgp hgl => feed_any p cs #[.int .i8 g.x, .int .i8 g.y, .int .i8 g.u, .int .i8 g.v, .int .i16 g.rope, .int .i16 g.eats, .int .i8 g.likes] 103 gp gl 0 cap [g] 1 w hp (by omega) rfl (f1_ok hp hon q0 q1) hne hgp hgl (gtIn_lit g)
  have hS12 : fdT 1 ⟨p, [g], List.replicate 1 0⟩ (12 * 1) = f1S p g 12 := rfl
  simp only [hS12, hL1, hE1] at hfe
  clear hS12 hL1 hE1
  generalize (f1S p g 12).p = q' at *
  generalize f1G p g 12 = g' at *
  generalize f1E p g 12 = e' at *
  have hgs : (gtA g').size = 7 := rfl
  have hi0 : (intA [e'])[0 + 0 * 1]? = some (.int .i64 e') := rfl
  have hlt1 : 0 < 1 := by omega
  refine enter2 Try.func79 rfl rfl rfl (Own.start w) ?_
  repeat' (first
    | (refine s_g ?_; first
      | (refine s_k 0 rfl ?_; refine s_val rfl rfl rfl (r_move rfl rfl) ?_)
      | (refine s_k 8 rfl ?_; first | (refine' s_val rfl rfl rfl (r_ldv rfl rfl ?qm ?qv) ?_; (case qm => (exact zMm)); (case qv => (first | exact ldvL tb rfl rfl | exact ldv1 tb rfl (by assumption) | exact ldv1 tb rfl (hi0) | exact zLd))) | (refine' s_val rfl rfl rfl (r_ldo rfl rfl ?qw (by simp) ?qv) ?_; (case qw => assumption); (case qv => (first | exact ldvL tb rfl rfl | exact ldv1 tb rfl (by assumption) | exact ldv1 tb rfl (hi0) | exact zLd))))
      | (refine s_k 1 rfl ?_; refine s_val rfl rfl rfl (r_assign rfl rfl) ?_)
      | (refine s_k 13 rfl ?_; refine s_val rfl rfl rfl (r_neq rfl rfl rfl) ?_)
      | (refine s_k 35 rfl ?_; first | (refine s_call Try.func128 (by kernel_rfl) rfl rfl rfl rfl rfl rfl (fun w hL => (by have q := goatCode1 (w := w) hp hs (hL.at_ m0); rw [hg] at q; exact q)) ?_) | (refine s_callW5_0 (vf := fun ge => .slice (some ⟨ge, 0, none⟩) 1 1) (ce := intA [e']) (Te := 2) (Pf := fun d1 d2 => d1 = c' ∧ d2 = gtA g') Try.func179 (by kernel_rfl) rfl rfl rfl rfl rfl rfl (fun w hL => (hfe w _ _ _ (Kn.ne2 hL (i := 5) (j := 0) rfl rfl (by omega)) (hL.at_ m5) (hL.at_ m0)).mono fun e w' ⟨ge, c1, cu1, he, ⟨hP, hW⟩, hU, h1, h2⟩ => ⟨ge, c1, cu1, he, ⟨hP.uniq hc', GtIn.one hW.ins hW.size⟩, hU, h1, h2⟩) fun ge d1 d2 hd => ?_; obtain ⟨rfl, rfl⟩ := hd))
      | (refine s_k 25 rfl ?_; first | refine s_val rfl rfl rfl (r_ixN tb rfl rfl rfl rfl (by omega)) ?_ | refine s_val rfl rfl rfl (r_ixA tb rfl rfl rfl rfl (by omega) (by omega)) ?_ | refine s_val rfl rfl rfl (r_ixO tb rfl rfl rfl rfl (by omega)) ?_)
      | (refine s_k 4 rfl ?_; first | refine s_boxA rfl rfl rfl rfl rfl fun blk => ?_ | refine s_box1 rfl rfl rfl rfl rfl rfl fun blk => ?_)
      | (refine s_k 9 rfl ?_; (first | refine s_st1 tb rfl rfl rfl rfl rfl rfl rfl rfl ?_ | refine s_stA tb rfl rfl rfl rfl (by first | rfl | assumption | (apply Pv.size; assumption)) rfl rfl ?_); (first | refine' st0 ?qs ?_ | refine' st1 ?qs ?_ | refine' st2 ?qs ?_ | refine' st3 ?qs ?_ | refine' st4 ?qs ?_ | refine' st5 ?qs ?_ | refine' st6 ?qs ?_ | refine' st7 ?qs ?_ | refine' st8 ?qs ?_ | refine' st9 ?qs ?_ | refine' st10 ?qs ?_ | refine' st11 ?qs ?_); (case qs => (first | exact setP hc' (by first | rfl | assumption) | exact set_whole (vs := gtA g') rfl (by simp [gtA, Value.oneCell']) | exact zSet)))
      | (refine s_k 3 rfl ?_; first | refine s_allocA (t := 34) rfl zImplPas rfl rfl rfl fun blk => ?_ | refine s_allocA (t := 103) rfl zImplGoat0 rfl rfl rfl fun blk => ?_)
      | (refine s_k 5 rfl ?_; first | refine s_val rfl rfl rfl (r_build rfl rfl (fun w => bPas0 w)) ?_ | refine s_val rfl rfl rfl (r_build rfl rfl (fun w => bGoat0 w)) ?_)
      | (refine s_k 6 rfl ?_; refine s_bsl rfl rfl (fun w => slGt1 _ _ _ _ _ _ _ w) rfl rfl rfl fun blk => ?_)
      | refine s_nil ?_)
    | (refine c_g ?_; first | refine c_seq ?_ | refine c_region ?_ | (refine c_gc ?_; first | refine c_cond1 rfl zTr ?_ | refine c_cond0 rfl zTr ?_ | refine z_condd1 rfl ?_ | refine z_condd0 rfl ?_ | refine z_conddn1 rfl ?_ | refine z_conddn0 rfl ?_ | refine c_condd rfl (fun hc => ?_) (fun hc => ?_) | refine c_conddn rfl (fun hc => ?_) (fun hc => ?_) | refine c_condn rfl (fun hc => ?_) (fun hc => ?_) | refine c_cond rfl (fun hc => ?_) (fun hc => ?_)) | refine c_block ?_ | refine c_skip ?_ | refine c_exit ?_ | refine c_ret ?_)
    | (refine e_g ?_; first | refine e_then ?_ | refine e_blkn ?_ | refine e_thenx ?_ | refine e_thenr ?_ | refine e_blkr ?_ | refine e_blkx ?_ | refine e_blky rfl ?_)
    | (refine z_g ?_; first
      | (refine z_k 0 rfl ?_; (refine' z_val rfl rfl rfl ?hr ?hp ?_; (case hr => exact fun N hN => r_move rfl rfl); (case hp => exact rfl)))
      | (refine z_k 8 rfl ?_; first | (refine' z_val rfl rfl rfl ?hr ?hp ?_; (case hr => (intro N hN; (refine' r_ldv rfl rfl ?qm ?qv; (case qm => (first | exact List.mem_append_right _ m0 | exact List.mem_append_right _ m1 | exact List.mem_append_right _ m2 | exact List.mem_append_right _ m3 | exact List.mem_append_right _ m4 | exact List.mem_append_right _ m5 | exact List.mem_append_right _ m6 | exact List.mem_append_right _ m7 | exact List.mem_append_right _ m8 | exact List.mem_append_right _ m9 | exact List.mem_append_right _ m10 | exact List.mem_append_right _ m11)); (case qv => (first | exact ldvL tb rfl rfl | exact ldv1 tb rfl (by assumption) | exact ldv1 tb rfl (hi0) | exact zLd))))); (case hp => exact rfl)) | (refine' z_val rfl rfl rfl ?hr ?hp ?_; (case hr => (intro N hN; (refine' r_ldo rfl rfl ?qw (by simp) ?qv; (case qw => assumption); (case qv => (first | exact ldvL tb rfl rfl | exact ldv1 tb rfl (by assumption) | exact ldv1 tb rfl (hi0) | exact zLd))))); (case hp => exact rfl)))
      | (refine z_k 1 rfl ?_; (refine' z_val rfl rfl rfl ?hr ?hp ?_; (case hr => exact fun N hN => r_assign rfl rfl); (case hp => exact rfl)))
      | (refine z_k 13 rfl ?_; (refine' z_val rfl rfl rfl ?hr ?hp ?_; (case hr => exact fun N hN => r_neq rfl rfl rfl); (case hp => exact rfl)))
      | (refine z_k 25 rfl ?_; first | (refine' z_val rfl rfl rfl ?hr ?hp ?_; (case hr => exact fun N hN => r_ixN tb rfl rfl rfl rfl (by omega)); (case hp => exact rfl)) | (refine' z_val rfl rfl rfl ?hr ?hp ?_; (case hr => exact fun N hN => r_ixA tb rfl rfl rfl rfl (by omega) (by omega)); (case hp => exact rfl)) | (refine' z_val rfl rfl rfl ?hr ?hp ?_; (case hr => exact fun N hN => r_ixO tb rfl rfl rfl rfl (by omega)); (case hp => exact rfl)))
      | (refine z_k 9 rfl ?_; first | (refine' z_put (i := 0) tb rfl rfl rfl rfl rfl rfl rfl (by first | rfl | assumption | (apply Pv.size; assumption)) rfl ?qs rfl ?hok ?hp ?_; (case qs => (first | exact setP hc' (by first | rfl | assumption) | exact set_whole (vs := gtA g') rfl (by simp [gtA, Value.oneCell']) | exact zSet)); (case hok => (first | exact trivial | (assumption))); (case hp => exact rfl)) | (refine' z_put (i := 1) tb rfl rfl rfl rfl rfl rfl rfl (by first | rfl | assumption | (apply Pv.size; assumption)) rfl ?qs rfl ?hok ?hp ?_; (case qs => (first | exact setP hc' (by first | rfl | assumption) | exact set_whole (vs := gtA g') rfl (by simp [gtA, Value.oneCell']) | exact zSet)); (case hok => (first | exact trivial | (assumption))); (case hp => exact rfl)) | (refine' z_put (i := 2) tb rfl rfl rfl rfl rfl rfl rfl (by first | rfl | assumption | (apply Pv.size; assumption)) rfl ?qs rfl ?hok ?hp ?_; (case qs => (first | exact setP hc' (by first | rfl | assumption) | exact set_whole (vs := gtA g') rfl (by simp [gtA, Value.oneCell']) | exact zSet)); (case hok => (first | exact trivial | (assumption))); (case hp => exact rfl)) | (refine' z_put (i := 3) tb rfl rfl rfl rfl rfl rfl rfl (by first | rfl | assumption | (apply Pv.size; assumption)) rfl ?qs rfl ?hok ?hp ?_; (case qs => (first | exact setP hc' (by first | rfl | assumption) | exact set_whole (vs := gtA g') rfl (by simp [gtA, Value.oneCell']) | exact zSet)); (case hok => (first | exact trivial | (assumption))); (case hp => exact rfl)))
      | refine z_nil ?_)
    | (refine' c_drawZ3_4 (id := 6) [false, false, false, false, false, false, false, true, true, false, false] (fun _ => True) [(Sum.inl _ : CalmE.Plan (List (Nat × TypeId × Array Value))), (Sum.inl _ : CalmE.Plan (List (Nat × TypeId × Array Value))), (Sum.inl _ : CalmE.Plan (List (Nat × TypeId × Array Value))), (Sum.inl _ : CalmE.Plan (List (Nat × TypeId × Array Value))), (Sum.inl _ : CalmE.Plan (List (Nat × TypeId × Array Value))), (Sum.inl _ : CalmE.Plan (List (Nat × TypeId × Array Value))), (Sum.inl _ : CalmE.Plan (List (Nat × TypeId × Array Value))), (Sum.inr _ : CalmE.Plan (List (Nat × TypeId × Array Value))), (Sum.inr _ : CalmE.Plan (List (Nat × TypeId × Array Value))), (Sum.inl _ : CalmE.Plan (List (Nat × TypeId × Array Value))), (Sum.inl _ : CalmE.Plan (List (Nat × TypeId × Array Value)))] (by kernel_rfl) (by kernel_rfl) (by kernel_rfl) (by simp only [CalmE.Agree, and_self, true_and, and_true]) (trivial) ?_)
    | (refine e_ret4 (by simp) rfl (re_cell tb rfl m1 rfl (by first | rfl | assumption | (apply Pv.size; assumption))) (re_cell tb rfl m0 rfl rfl) (re_tmp rfl) (re_tmp rfl) fun w hL => ⟨rfl, hL.toBelow⟩))
end Go.Proofs.YtdnndidihedndaaRR
