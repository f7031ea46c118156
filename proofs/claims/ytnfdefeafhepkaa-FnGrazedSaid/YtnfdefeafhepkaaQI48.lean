import Derived.Test.YtnfdefeafhepkaaQI47
set_option linter.unusedVariables false
set_option linter.unusedSimpArgs false
namespace Go.Proofs.Ytnfdefeafhepkaa
open Go.RowKit Mem Wk
attribute [local irreducible] Calls Wk.S Wk.C Wk.E Wk.X Wk.T Wk.Y Wk.Z Wk.anV Wk.orV Wk.andV Wk.shlV Wk.shrV Calm.wpLex CalmB.wpLex CalmE.wpLex bfsN fedS fdT
theorem s_callW4_1 {P : Program} {ops : Array Oper} {Q : Exit → Act → World → Prop} {n : Nat} {O : List Nat} {w0 : World} {o : Oper} {rest : List Oper} {l : List (Nat × Value)} {L : List (Nat × TypeId × Array Value)} {b0 b2 b3 : Nat × TypeId × Array Value} {g1 g2 : Nat} {T1 T2 Te : TypeId} {c1 c2 ce : Array Value} {f : FuncId} {fn : Func} {xs : Array Operand} {ts : Array TypeId} {vs : List Value} {d : Nat} {vf : Nat → Value} {Pf : Array Value → Array Value → Prop} (hf : P.funcs[f]? = some fn) (hname : (fn.name == "runtime.NumGoroutine") = false) (hb : fn.body.isSome = true) (hg : o.guard = none) (hd : o.dst = some d) (hn : Nat.blt d n = true) (hop : o.op = .call { callee := .value (.func f), args := xs, argTypes := ts }) (hargs : evs l xs.toList = some vs) (hc : ∀ w, Kn O w0 w (b0 :: (g2, T2, c2) :: b2 :: b3 :: (g1, T1, c1) :: L) → Calls P f vs.toArray w fun e w' => ∃ ge d1 d2, e = .returned (vf ge) ∧ Pf d1 d2 ∧ Upd2 w w' g1 T1 d1 g2 T2 d2 ∧ w.heap.size ≤ ge ∧ w'.heap[ge]? = some (.cells ce Te (0, 0))) (h : ∀ ge d1 d2, Pf d1 d2 → S P ops Q n O w0 rest ((d, vf ge) :: l) ((ge, Te, ce) :: b0 :: (g2, T2, d2) :: b2 :: b3 :: (g1, T1, d1) :: L)) : S P ops Q n O w0 (o :: rest) l (b0 :: (g2, T2, c2) :: b2 :: b3 :: (g1, T1, c1) :: L) := s_callR (ι := Nat × Array Value × Array Value) (fun i => Pf i.2.1 i.2.2) (fun i => vf i.1) (fun i => (i.1, Te, ce) :: b0 :: (g2, T2, i.2.2) :: b2 :: b3 :: (g1, T1, i.2.1) :: L) hf hname hb hg hd hn hop hargs (fun w hL => (hc w hL).mono fun e w' ⟨ge, d1, d2, he, hP, hu, h1, h2⟩ => ⟨(ge, d1, d2), hP, he, Kn.comp (i := 4) (j := 1) hL rfl rfl (by omega) hu h1 h2⟩) (fun i hi => h i.1 i.2.1 i.2.2 hi)
def sumTo (E : List Int) : Nat → Int
  | 0 => 0
  | k + 1 => sumTo E k + E.getD k 0
theorem sumTo_rng {E : List Int} (h : ∀ (i : Nat) (e : Int), E[i]? = some e → -10000000 ≤ e ∧ e ≤ 100) : ∀ k : Nat, -(10000000 * (k : Int)) ≤ sumTo E k ∧ sumTo E k ≤ 100 * (k : Int)
  | 0 => by simp [sumTo]
  | k + 1 => by
    have ih := sumTo_rng h k
    have : -10000000 ≤ E.getD k 0 ∧ E.getD k 0 ≤ 100 := by
      rw [List.getD_eq_getElem?_getD]
      cases hk : E[k]? with
      | none => simp
      | some e => simpa using h k e hk
    unfold sumTo; omega
set_option maxRecDepth 100000 in
theorem sum_any (E : List Int) (ge n cap : Nat) (T : TypeId) (w : World) (hn : E.length = n) (hn2 : n ≤ 1000) (h : ∀ (i : Nat) (e : Int), E[i]? = some e → -10000000 ≤ e ∧ e ≤ 100) (hg : w.heap[ge]? = some (.cells (intA E) T (0, 0))) :
    Calls Try.prog 89 #[.slice (some ⟨ge, 0, none⟩) n cap] w fun e w' => e = .returned (.int .i64 (sumTo E n)) ∧ Below w.heap.size w w' := by
  refine enter1 Try.func89 rfl rfl rfl (Own.start w) ?_
  repeat' (first | (refine s_g ?_; first | (refine s_k 0 rfl ?_; refine zsv (r_move rfl rfl) ?_) | (refine s_k 8 rfl ?_; first | (refine' s_val rfl rfl rfl (r_ldv rfl rfl ?qm ?qv) ?_; (case qm => (exact zMm)); (case qv => (exact zLe))) | (refine' s_val rfl rfl rfl (r_ldo rfl rfl ?qw (by simp) ?qv) ?_; (case qw => assumption); (case qv => (exact zLe)))) | (refine s_k 1 rfl ?_; refine zsv (r_assign rfl rfl) ?_) | (refine s_k 13 rfl ?_; first | refine zsv (r_lss rfl rfl rfl) ?_ | refine zsv (r_add rfl rfl rfl zWr) ?_) | (refine s_k 25 rfl ?_; first | refine zsv (r_ixN tb rfl rfl rfl rfl (by omega)) ?_ | refine zsv (r_ixA tb rfl rfl rfl rfl (by omega) (by omega)) ?_ | refine zsv (r_ixO tb rfl rfl rfl rfl (by omega)) ?_) | (refine s_k 36 rfl ?_; refine zsv (r_len tb rfl rfl rfl) ?_) | refine s_nil ?_) | (refine c_g ?_; first | refine c_seq ?_ | refine c_region ?_ | (refine c_gc ?_; first | refine c_cond1 rfl zTr ?_ | refine c_cond0 rfl zTr ?_) | refine c_block ?_ | refine c_skip ?_ | refine c_exit ?_ | refine c_ret ?_) | (refine e_g ?_; first | refine e_then ?_ | refine e_blkn ?_ | refine e_thenx ?_ | refine e_thenr ?_ | refine e_blkr ?_ | refine e_blkx ?_ | refine e_blky rfl ?_))
  refine c_loop (ι := Nat) (fun i => n - i) (fun i => i ≤ n) (fun i => [(8, .int .i64 (i : Int)), (7, .int .i64 (n : Int)), (6, .slice (some ⟨ge, 0, none⟩) n cap), (3, .int .i64 (sumTo E i))]) (fun i => []) 0 (by simp) ?hs rfl ?_
  case hs => (repeat' (first | exact sub_nil | refine sub_cons rfl ?_))
  rintro k hk
  have hr := sumTo_rng h k
  by_cases hlt : k < n
  · have hx : E[k]? = some (E[k]'(by omega)) := List.getElem?_eq_getElem _
    have hl := intA_get hx
    have hre := h _ _ hx
    have hst : sumTo E (k + 1) = sumTo E k + E[k]'(by omega) := by
      have : E.getD k 0 = E[k]'(by omega) := by simp [List.getD_eq_getElem?_getD, hx]
      rw [sumTo, this]
    generalize (E[k]'(by omega)) = e at *
    repeat' (first | (refine s_g ?_; first | (refine s_k 0 rfl ?_; refine zsv (r_move rfl rfl) ?_) | (refine s_k 8 rfl ?_; first | refine zsv (r_ldo rfl rfl hg (by simp) (ldv1 tb rfl hl)) ?_ | (refine' s_val rfl rfl rfl (r_ldv rfl rfl ?qm ?qv) ?_; (case qm => (exact zMm)); (case qv => (exact zLe))) | (refine' s_val rfl rfl rfl (r_ldo rfl rfl ?qw (by simp) ?qv) ?_; (case qw => assumption); (case qv => (exact zLe)))) | (refine s_k 1 rfl ?_; refine zsv (r_assign rfl rfl) ?_) | (refine s_k 13 rfl ?_; first | refine zsv (r_lss rfl rfl rfl) ?_ | refine zsv (r_add rfl rfl rfl zWr) ?_) | (refine s_k 25 rfl ?_; first | refine zsv (r_ixO tb rfl rfl rfl rfl hlt) ?_ | refine zsv (r_ixN tb rfl rfl rfl rfl (by omega)) ?_ | refine zsv (r_ixA tb rfl rfl rfl rfl (by omega) (by omega)) ?_ | refine zsv (r_ixO tb rfl rfl rfl rfl (by omega)) ?_) | (refine s_k 36 rfl ?_; refine zsv (r_len tb rfl rfl rfl) ?_) | refine s_nil ?_) | (refine c_g ?_; first | refine c_seq ?_ | refine c_region ?_ | (refine c_gc ?_; first | refine c_cond1 rfl zTr ?_ | refine c_cond0 rfl zTr ?_) | refine c_block ?_ | refine c_skip ?_ | refine c_exit ?_ | refine c_ret ?_) | (refine e_g ?_; first | refine e_then ?_ | refine e_blkn ?_ | refine e_thenx ?_ | refine e_thenr ?_ | refine e_blkr ?_ | refine e_blkx ?_ | refine e_blky rfl ?_) | (refine e_round (k + 1) (by omega) (by omega) ?_ rfl; rw [hst]; (repeat' (first | exact sub_nil | refine sub_cons rfl ?_))))
  · have hkn : k = n := by omega
    subst hkn
    repeat' (first | (refine s_g ?_; first | (refine s_k 0 rfl ?_; refine zsv (r_move rfl rfl) ?_) | (refine s_k 8 rfl ?_; first | (refine' s_val rfl rfl rfl (r_ldv rfl rfl ?qm ?qv) ?_; (case qm => (exact zMm)); (case qv => (exact zLe))) | (refine' s_val rfl rfl rfl (r_ldo rfl rfl ?qw (by simp) ?qv) ?_; (case qw => assumption); (case qv => (exact zLe)))) | (refine s_k 1 rfl ?_; refine zsv (r_assign rfl rfl) ?_) | (refine s_k 13 rfl ?_; first | refine zsv (r_lss rfl rfl rfl) ?_ | refine zsv (r_add rfl rfl rfl zWr) ?_) | (refine s_k 25 rfl ?_; first | refine zsv (r_ixN tb rfl rfl rfl rfl (by omega)) ?_ | refine zsv (r_ixA tb rfl rfl rfl rfl (by omega) (by omega)) ?_ | refine zsv (r_ixO tb rfl rfl rfl rfl (by omega)) ?_) | (refine s_k 36 rfl ?_; refine zsv (r_len tb rfl rfl rfl) ?_) | refine s_nil ?_) | (refine c_g ?_; first | refine c_seq ?_ | refine c_region ?_ | (refine c_gc ?_; first | refine c_cond1 rfl zTr ?_ | refine c_cond0 rfl zTr ?_) | refine c_block ?_ | refine c_skip ?_ | refine c_exit ?_ | refine c_ret ?_) | (refine e_g ?_; first | refine e_then ?_ | refine e_blkn ?_ | refine e_thenx ?_ | refine e_thenr ?_ | refine e_blkr ?_ | refine e_blkx ?_ | refine e_blky rfl ?_) | (refine e_ret1 (by simp) rfl (re_tmp rfl) fun w hL => ⟨rfl, hL.toBelow⟩))
def dayN (p : Nat → Int) (L : List Gt) : Nat → Fd
  | 0 => ⟨p, L, []⟩
  | k + 1 => ⟨(fedS (dayN p L k).p (dayN p L k).L).p, (fedS (dayN p L k).p (dayN p L k).L).L, (dayN p L k).E ++ [sumTo (fedS (dayN p L k).p (dayN p L k).L).E L.length]⟩
structure DayOk (n k : Nat) (s : Fd) : Prop where
  fd : FdOk n 0 ⟨s.p, s.L, List.replicate n 0⟩
  lE : s.E.length = k
  pv : FdPv s
theorem fedS_eq (p : Nat → Int) (L : List Gt) : fedS p L = fdT L.length ⟨p, L, List.replicate L.length 0⟩ (12 * L.length) := by unfold fedS; rfl
theorem fed_rng {n : Nat} {p : Nat → Int} {cs : Array Value} {L : List Gt} (hl : L.length = n) (hp : Pv p cs) (h : FdOk n 0 ⟨p, L, List.replicate n 0⟩) (hn : n ≤ 20) : FdOk n 0 ⟨(fedS p L).p, (fedS p L).L, List.replicate n 0⟩ ∧ (fedS p L).E.length = n ∧ FdPv (fedS p L) ∧ ∀ (i : Nat) (e : Int), (fedS p L).E[i]? = some e → -10000000 ≤ e ∧ e ≤ 100 := by
  subst hl
  obtain ⟨h1, h2⟩ := fdT_ok0 h ⟨cs, hp⟩ 12
  rw [fedS_eq]
  refine ⟨⟨h1.lL, by simp, fun i g hg => h1.on i g hg, fun i g e hg he => ?_⟩, h1.lE, h2, fun i e he => ?_⟩
  · have := h1.on i g hg
    simp only [List.getElem?_replicate] at he
    split at he
    · injection he with he; subst he; omega
    · cases he
  · have hi := (List.getElem?_eq_some_iff.1 he).1
    rw [h1.lE] at hi
    have hg := List.getElem?_eq_getElem (l := (fdT L.length ⟨p, L, List.replicate L.length 0⟩ (12 * L.length)).L) (i := i) (by rw [h1.lL]; exact hi)
    have := h1.on i _ hg
    have := h1.le i _ e hg he
    omega
theorem dayN_ok {p : Nat → Int} {cs : Array Value} {L : List Gt} (hp : Pv p cs) (hn : L.length ≤ 20) (h : FdOk L.length 0 ⟨p, L, List.replicate L.length 0⟩) : ∀ k, DayOk L.length k (dayN p L k)
  | 0 => ⟨h, rfl, ⟨cs, hp⟩⟩
  | k + 1 => by
    obtain ⟨h1, h2, ⟨c, hc⟩⟩ := dayN_ok hp hn h k
    obtain ⟨q1, q2, q3, q4⟩ := fed_rng h1.lL hc h1 hn
    exact ⟨q1, by unfold dayN; simp [h2], q3⟩
def dayC (p : Nat → Int) (L : List Gt) (d : Int) : Int := if validGt p L then (if inB d 0 60 then 0 else 2) else 1
theorem dayC_fst (p : Nat → Int) (L : List Gt) (d : Int) : fstC [if validGt p L then 0 else 1, if inB d 0 60 then 0 else 2] = dayC p L d := by
  unfold dayC; cases validGt p L <;> cases inB d 0 60 <;> simp [fstC]
theorem dayC0 {p : Nat → Int} {L : List Gt} {d : Int} (h : dayC p L d = 0) : validGt p L = true ∧ inB d 0 60 = true := by
  unfold dayC at h
  cases hv : validGt p L <;> cases hb : inB d 0 60 <;> simp [hv, hb] at h ⊢
theorem in60 {d : Int} (h : inB d 0 60 = true) : 0 ≤ d ∧ d ≤ 60 := by unfold inB at h; simpa using h
def NewP (c : Array Value) (xi : List Value) (code : Int) (w : World) (e : Ending) (w' : World) : Prop := ∃ ge ni capi ci, e = .returned (.tuple #[.agg c, .slice (some ⟨ge, 0, none⟩) ni capi, .int .i64 code]) ∧ Ap 1 ni capi ci xi ∧ Below w.heap.size w w' ∧ w.heap.size ≤ ge ∧ w'.heap[ge]? = some (.cells ci 2 (0, 0))
theorem NewP.of {w0 w : World} {L : List (Nat × TypeId × Array Value)} {c : Array Value} {xi : List Value} {code : Int} {ge ni capi : Nat} {ci : Array Value} (hB : Ap 1 ni capi ci xi) (hL : Kn [] w0 w L) (hm : (ge, 2, ci) ∈ L) : NewP c xi code w0 (.returned (.tuple #[.agg c, .slice (some ⟨ge, 0, none⟩) ni capi, .int .i64 code])) w :=
  ⟨ge, ni, capi, ci, rfl, hB, hL.toBelow, Kn.fresh hL hm, hL.at_ hm⟩
set_option maxRecDepth 100000 in
set_option maxHeartbeats 4000000 in
theorem implFeedDays_new (p : Nat → Int) (cs c' : Array Value) (L : List Gt) (D g n cap : Nat) (cur : Array Value) (w : World) (hp : Pv p cs) (hok : ∀ s ∈ L, s.ok) (hC : dayC p L (D : Int) = 0) (hc' : Pv (dayN p L D).p c') (hA : Ap 7 n cap cur (L.map Gt.cells).flatten) (hg : w.heap[g]? = some (.cells cur 68 (0, 0))) :
    Calls Try.prog 38 #[.agg cs, .slice (some ⟨g, 0, none⟩) n cap, .int .i64 (D : Int)] w (NewP c' ((dayN p L D).E.map (Value.int .i64)) 0 w) := by
  obtain ⟨hv, hd⟩ := dayC0 hC
  have hd60 := in60 hd
  have hfo := dayC_fst p L (D : Int)
  rw [hC, hv, hd] at hfo
  have hS := hA.slA (lenGt L) hg
  have hsl := hA.toSl (lenGt L) (by omega) hg
  obtain rfl := hA.count (lenGt L) (by omega)
  rw [List.length_map] at hsl ⊢
  obtain ⟨h20, hfd⟩ := validGt_fd hok hv
  have hcl := fun w' (hb : Below w.heap.size w w') => cloneGt_any L g 0 cap w' (hS.mono (Own.ext (Own.start w) hb)) (by omega)
  have hsz := hp.size
  have hT := dayN_ok hp h20 hfd
  have hz0 : dayN p L 0 = ⟨p, L, []⟩ := rfl
  have hst : ∀ k, dayN p L (k + 1) = ⟨(fedS (dayN p L k).p (dayN p L k).L).p, (fedS (dayN p L k).p (dayN p L k).L).L, (dayN p L k).E ++ [sumTo (fedS (dayN p L k).p (dayN p L k).L).E L.length]⟩ := fun k => rfl
  generalize dayN p L = S at *
  refine enter3 Try.func38 rfl rfl rfl (Own.start w) ?_
  repeat' (first | (refine s_g ?_; first | (refine s_k 0 rfl ?_; refine zsv (r_move rfl rfl) ?_) | (refine s_k 8 rfl ?_; first | (refine' s_val rfl rfl rfl (r_ldv rfl rfl ?qm ?qv) ?_; (case qm => (exact zMm)); (case qv => (exact zLe))) | (refine' s_val rfl rfl rfl (r_ldo rfl rfl ?qw (by simp) ?qv) ?_; (case qw => assumption); (case qv => (exact zLe)))) | (refine s_k 1 rfl ?_; refine zsv (r_assign rfl rfl) ?_) | (refine s_k 13 rfl ?_; first | refine zsv (r_lss rfl rfl rfl) ?_ | refine zsv (r_neq rfl rfl rfl) ?_ | refine zsv (r_add rfl rfl rfl zWr) ?_) | (refine s_k 35 rfl ?_; first | (refine s_call Try.func69 (by kernel_rfl) rfl rfl rfl rfl rfl rfl (fun w hL => (by have q := goatCode_new p cs _ L w hp (hsl.below hL.toBelow) hok; rw [hv] at q; exact q)) ?_) | (refine s_call Try.func88 (by kernel_rfl) rfl rfl rfl rfl rfl rfl (fun w hL => to_below (within_any _ _ _ _) (by rw [hd])) ?_) | (refine s_call Try.func51 (by kernel_rfl) rfl rfl rfl rfl rfl rfl (fun w hL => to_below (unless0_any _ _ _) rfl) ?_) | (refine s_call Try.func48 (by kernel_rfl) rfl rfl rfl rfl rfl rfl (fun w hL => fo2v hfo (hL.at_ m0)) ?_) | (refine s_callN Try.func70 (by kernel_rfl) rfl rfl rfl rfl rfl rfl (fun w hL => hcl w hL.toBelow) fun gc n capc curc hA2 => ?_; obtain rfl := hA2.count (lenGt L) (by omega); rw [List.length_map] at hA2 ⊢; have hAs := hA2.size; have hAl := hA2.le; have hAm := hA2.max; have hAi := GtIn.of_ap hA2)) | (refine s_k 4 rfl ?_; first | refine s_boxA rfl rfl rfl rfl rfl fun blk => ?_ | refine s_box1 rfl rfl rfl rfl rfl rfl fun blk => ?_) | (refine s_k 9 rfl ?_; (first | refine s_st1 tb rfl rfl rfl rfl rfl rfl rfl rfl ?_ | refine s_stA tb rfl rfl rfl rfl zSz rfl rfl ?_); (first | refine' st0 ?qs ?_ | refine' st1 ?qs ?_ | refine' st2 ?qs ?_ | refine' st3 ?qs ?_ | refine' st4 ?qs ?_ | refine' st5 ?qs ?_ | refine' st6 ?qs ?_ | refine' st7 ?qs ?_ | refine' st8 ?qs ?_ | refine' st9 ?qs ?_ | refine' st10 ?qs ?_ | refine' st11 ?qs ?_); (case qs => (first | exact zSet))) | (refine s_k 3 rfl ?_; refine s_allocA (t := 36) rfl zImplPas rfl rfl rfl fun blk => ?_) | (refine s_k 6 rfl ?_; first | refine s_bsl rfl rfl (fun w => slInt2 _ _ w) rfl rfl rfl fun blk => ?_ | refine s_bsl rfl rfl (fun w => slI0 w) rfl rfl rfl fun blk => ?_) | refine s_nil ?_) | (refine c_g ?_; first | refine c_seq ?_ | refine c_region ?_ | (refine c_gc ?_; first | refine c_cond1 rfl zTr ?_ | refine c_cond0 rfl zTr ?_) | refine c_block ?_ | refine c_skip ?_ | refine c_exit ?_ | refine c_ret ?_) | (refine e_g ?_; first | refine e_then ?_ | refine e_blkn ?_ | refine e_thenx ?_ | refine e_thenr ?_ | refine e_blkr ?_ | refine e_blkx ?_ | refine e_blky rfl ?_))
  rename_i b3 b6 b18
  refine c_loop (ι := Nat × Nat × Nat × Array Value × Array Value × Array Value) (fun i => D - i.1) (fun i => i.1 ≤ D ∧ Ap 1 i.1 i.2.2.1 i.2.2.2.1 ((S i.1).E.map (Value.int .i64)) ∧ Pv (S i.1).p i.2.2.2.2.1 ∧ GtIn (S i.1).L 0 i.2.2.2.2.2) (fun i => [(28, .int .i64 (i.1 : Int)), (27, .int .i64 (D : Int)), (11, .slice (some ⟨i.2.1, 0, none⟩) i.1 i.2.2.1), (10, .slice (some ⟨gc, 0, none⟩) L.length capc), (3, .pointer (some ⟨b3, 0, none⟩)), (6, .pointer (some ⟨b6, 0, none⟩))]) (fun i => [(i.2.1, 2, i.2.2.2.1), (gc, 68, i.2.2.2.2.2), (b18, 2, #[.int .i64 0, .int .i64 0]), (b6, 36, zP), (b3, 36, i.2.2.2.2.1)]) (0, blk, 0, #[], cs, curc) ⟨by simp, by rw [hz0]; exact Ap.nil 1, by rw [hz0]; exact hp, by rw [hz0]; exact hAi⟩ ?hs ?hL ?_
  case hs => (repeat' (first | exact sub_nil | refine sub_cons rfl ?_))
  case hL => rfl
  rintro ⟨k, ga, capa, cura, c, cu⟩ ⟨hk, hO, hc, hG⟩
  simp only at hk hO hc hG ⊢
  by_cases hlt : k < D
  · obtain ⟨h1, _, _⟩ := hT k
    have hlS : (S k).L.length = L.length := h1.lL
    obtain ⟨_, q2, ⟨cx, hcx⟩, q4⟩ := fed_rng hlS hc h1 h20
    have hS1 := hst k
    have hfe := fun w gp gl cap hne hgp hgl => feed_any (S k).p c cu 68 gp gl 0 cap (S k).L L.length w hc (by omega) hlS h1 hne hgp hgl hG
    have hE := fedS_eq (S k).p (S k).L
    rw [hlS] at hE
    rw [← hE] at hfe
    clear hE
    have hsum := fun w ge cap hg => sum_any (fedS (S k).p (S k).L).E ge L.length cap 2 w q2 (by omega) q4 hg
    have hrs := sumTo_rng q4 L.length
    generalize fedS (S k).p (S k).L = f at *
    have hk60 : (k : Int) < (D : Int) := by omega
    repeat' (first | (refine s_g ?_; first | (refine s_k 0 rfl ?_; refine zsv (r_move rfl rfl) ?_) | (refine s_k 8 rfl ?_; first | (refine' s_val rfl rfl rfl (r_ldv rfl rfl ?qm ?qv) ?_; (case qm => (exact zMm)); (case qv => (exact zLe))) | (refine' s_val rfl rfl rfl (r_ldo rfl rfl ?qw (by simp) ?qv) ?_; (case qw => assumption); (case qv => (exact zLe)))) | (refine s_k 1 rfl ?_; refine zsv (r_assign rfl rfl) ?_) | (refine s_k 13 rfl ?_; first | refine zsv (r_lss rfl rfl rfl) ?_ | refine zsv (r_neq rfl rfl rfl) ?_ | refine zsv (r_add rfl rfl rfl zWr) ?_) | (refine s_k 35 rfl ?_; first | (refine s_call Try.func89 (by kernel_rfl) rfl rfl rfl rfl rfl rfl (fun w hL => hsum w _ _ (hL.at_ m0)) ?_) | (refine s_callW4_1 (vf := fun ge => .slice (some ⟨ge, 0, none⟩) L.length L.length) (ce := intA f.E) (Te := 2) (Pf := fun d1 d2 => d1 = cx ∧ GtIn f.L 0 d2) Try.func71 (by kernel_rfl) rfl rfl rfl rfl rfl rfl (fun w hL => (hfe w _ _ _ (Kn.ne2 hL (i := 4) (j := 1) rfl rfl (by omega)) (hL.at_ m4) (hL.at_ m1)).mono fun e w' ⟨ge, c1, cu1, he, ⟨hP, hW⟩, hU, h1, h2⟩ => ⟨ge, c1, cu1, he, ⟨hP.uniq hcx, hW.ins⟩, hU, h1, h2⟩) fun ge d1 d2 hd => ?_; obtain ⟨rfl, hd2⟩ := hd)) | (refine s_k 4 rfl ?_; first | refine s_boxA rfl rfl rfl rfl rfl fun blk => ?_ | refine s_box1 rfl rfl rfl rfl rfl rfl fun blk => ?_) | (refine s_k 9 rfl ?_; (first | refine s_st1 tb rfl rfl rfl rfl rfl rfl rfl rfl ?_ | refine s_stA tb rfl rfl rfl rfl zSz rfl rfl ?_); (first | refine' st0 ?qs ?_ | refine' st1 ?qs ?_ | refine' st2 ?qs ?_ | refine' st3 ?qs ?_ | refine' st4 ?qs ?_ | refine' st5 ?qs ?_ | refine' st6 ?qs ?_ | refine' st7 ?qs ?_ | refine' st8 ?qs ?_ | refine' st9 ?qs ?_ | refine' st10 ?qs ?_ | refine' st11 ?qs ?_); (case qs => (first | exact zSet))) | (refine s_k 36 rfl ?_; refine s_app1 hO rfl rfl rfl uSlI64 iI64 rfl (by omega) (by simp) (by simp) rfl (by simp [Value.oneCell']) (by unfold maxLen; omega) (by omega) rfl rfl rfl fun g2 cap2 cur2 hO' => ?_) | (refine s_k 6 rfl ?_; refine s_bsl rfl rfl (fun w => slI1 _ w) rfl rfl rfl fun blk => ?_) | refine s_nil ?_) | (refine c_g ?_; first | refine c_seq ?_ | refine c_region ?_ | (refine c_gc ?_; first | refine c_cond1 rfl zTr ?_ | refine c_cond0 rfl zTr ?_) | refine c_block ?_ | refine c_skip ?_ | refine c_exit ?_ | refine c_ret ?_) | (refine e_g ?_; first | refine e_then ?_ | refine e_blkn ?_ | refine e_thenx ?_ | refine e_thenr ?_ | refine e_blkr ?_ | refine e_blkx ?_ | refine e_blky rfl ?_) | (refine e_drop0 (e_round (k + 1, g2, cap2, cur2, d1, d2) (by simp; omega) ⟨by simp; omega, by simp only [hS1]; simpa using hO', by simp only [hS1]; exact hcx, by simp only [hS1]; exact hd2⟩ ?_ rfl)))
    all_goals (repeat' (first | exact sub_nil | refine sub_cons rfl ?_))
  · have hkl : k = D := by omega
    subst hkl
    obtain rfl := hc.uniq hc'
    have hsc := hc.size
    repeat' (first | (refine s_g ?_; first | (refine s_k 0 rfl ?_; refine zsv (r_move rfl rfl) ?_) | (refine s_k 8 rfl ?_; first | (refine' s_val rfl rfl rfl (r_ldv rfl rfl ?qm ?qv) ?_; (case qm => (exact zMm)); (case qv => (exact zLe))) | (refine' s_val rfl rfl rfl (r_ldo rfl rfl ?qw (by simp) ?qv) ?_; (case qw => assumption); (case qv => (exact zLe)))) | (refine s_k 1 rfl ?_; refine zsv (r_assign rfl rfl) ?_) | (refine s_k 13 rfl ?_; first | refine zsv (r_lss rfl rfl rfl) ?_ | refine zsv (r_neq rfl rfl rfl) ?_ | refine zsv (r_add rfl rfl rfl zWr) ?_) | (refine s_k 4 rfl ?_; first | refine s_boxA rfl rfl rfl rfl rfl fun blk => ?_ | refine s_box1 rfl rfl rfl rfl rfl rfl fun blk => ?_) | (refine s_k 9 rfl ?_; (first | refine s_st1 tb rfl rfl rfl rfl rfl rfl rfl rfl ?_ | refine s_stA tb rfl rfl rfl rfl zSz rfl rfl ?_); (first | refine' st0 ?qs ?_ | refine' st1 ?qs ?_ | refine' st2 ?qs ?_ | refine' st3 ?qs ?_ | refine' st4 ?qs ?_ | refine' st5 ?qs ?_ | refine' st6 ?qs ?_ | refine' st7 ?qs ?_ | refine' st8 ?qs ?_ | refine' st9 ?qs ?_ | refine' st10 ?qs ?_ | refine' st11 ?qs ?_); (case qs => (first | exact setP hc rfl | exact zSet))) | refine s_nil ?_) | (refine c_g ?_; first | refine c_seq ?_ | refine c_region ?_ | (refine c_gc ?_; first | refine c_cond1 rfl zTr ?_ | refine c_cond0 rfl zTr ?_) | refine c_block ?_ | refine c_skip ?_ | refine c_exit ?_ | refine c_ret ?_) | (refine e_g ?_; first | refine e_then ?_ | refine e_blkn ?_ | refine e_thenx ?_ | refine e_thenr ?_ | refine e_blkr ?_ | refine e_blkx ?_ | refine e_blky rfl ?_) | (refine e_ret3 (by simp) rfl (re_cell tb rfl m3 rfl zSz) (re_tmp rfl) (re_tmp rfl) fun w hL => NewP.of hO hL m0))
theorem Wk.s_newP {P : Program} {n : Nat} {O : List Nat} {w0 : World} {l : List (Nat × Value)} {L : List (Nat × TypeId × Array Value)} {Q : Exit → Act → World → Prop} {ops : Array Oper} {o : Oper} {rest : List Oper} {d : Nat} {f : FuncId} {fn : Func} {xs : Array Operand} {ts : Array TypeId} {vs : List Value} {c : Array Value} {xi : List Value} {code : Int} (hf : P.funcs[f]? = some fn) (hname : (fn.name == "runtime.NumGoroutine") = false) (hb : fn.body.isSome = true) (hg : o.guard = none) (hd : o.dst = some d) (hn : Nat.blt d n = true)
    (hop : o.op = .call { callee := .value (.func f), args := xs, argTypes := ts }) (hargs : evs l xs.toList = some vs)
    (hc : ∀ w, Kn O w0 w L → Calls P f vs.toArray w (NewP c xi code w)) (h : ∀ ge ni capi ci, Ap 1 ni capi ci xi → S P ops Q n O w0 rest ((d, .tuple #[.agg c, .slice (some ⟨ge, 0, none⟩) ni capi, .int .i64 code]) :: l) ((ge, 2, ci) :: L)) : S P ops Q n O w0 (o :: rest) l L :=
  s_callR (ι := Nat × Nat × Nat × Array Value) (fun i => Ap 1 i.2.1 i.2.2.1 i.2.2.2 xi) (fun i => .tuple #[.agg c, .slice (some ⟨i.1, 0, none⟩) i.2.1 i.2.2.1, .int .i64 code]) (fun i => (i.1, 2, i.2.2.2) :: L) hf hname hb hg hd hn hop hargs
    (fun w hL => (hc w hL).mono fun e w' ⟨ge, ni, capi, ci, he, hB, hb, h2, hy⟩ => ⟨(ge, ni, capi, ci), hB, he, Kn.add (Own.ext hL hb) (Nat.le_trans hL.size h2) (fun x hx e => by have := Kn.lt hL hx; (try simp only at e); omega) hy⟩) (fun i hi => h i.1 i.2.1 i.2.2.1 i.2.2.2 hi)
end Go.Proofs.Ytnfdefeafhepkaa
