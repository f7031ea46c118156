import Derived.Test.YtnfdefeafhepkaaQI37
import Derived.Test.YtnfdefeafhepkaaQI40
set_option linter.unusedVariables false
set_option linter.unusedSimpArgs false
namespace Go.Proofs.Ytnfdefeafhepkaa
open Go.RowKit Mem Wk
attribute [local irreducible] Calls Wk.S Wk.C Wk.E Wk.X Wk.T Wk.Y Wk.Z Wk.anV Wk.orV Wk.andV Wk.shlV Wk.shrV Calm.wpLex CalmB.wpLex CalmE.wpLex bfsN
theorem goatOk_on {p : Nat → Int} {g : Gt} (hs : g.ok) (hv : validP p = true) (h : goatOk p g = true) : GtOn p g ∧ 0 ≤ g.eats ∧ g.eats ≤ 100 := by
  have hle := valid_le3 hv
  unfold goatOk plainG inB at h
  simp only [Bool.and_eq_true, decide_eq_true_eq] at h
  exact ⟨⟨hs, by omega, hle.1, hle.2, h.1⟩, by omega, by omega⟩
theorem validGt_fd {p : Nat → Int} {L : List Gt} (hok : ∀ s ∈ L, s.ok) (h : validGt p L = true) : L.length ≤ 20 ∧ FdOk L.length 0 ⟨p, L, List.replicate L.length 0⟩ := by
  unfold validGt at h
  simp only [Bool.and_eq_true, decide_eq_true_eq, List.all_eq_true] at h
  obtain ⟨hv, hl, ha⟩ := h
  refine ⟨hl, rfl, by simp, fun i g hg => ?_, fun i g e hg he => ?_⟩
  · have hm := List.mem_of_getElem? hg
    exact goatOk_on (hok g hm) hv (ha g hm)
  · have hm := List.mem_of_getElem? hg
    have := goatOk_on (hok g hm) hv (ha g hm)
    simp only [List.getElem?_replicate] at he
    split at he
    · injection he with he; subst he; omega
    · cases he
theorem slI0 (w : World) : (Instr.buildSlice 56 0 #[]).run Try.prog w = .ok (.slice (some ⟨w.heap.size, 0, none⟩) 0 0) (w.alloc (.cells #[] 2 (0, 0))) := by kernel_rfl
theorem slI1 (a : Int) (w : World) : (Instr.buildSlice 56 1 #[(0, .int .i64 a)]).run Try.prog w = .ok (.slice (some ⟨w.heap.size, 0, none⟩) 1 1) (w.alloc (.cells #[.int .i64 a] 2 (0, 0))) := by kernel_rfl
def NewF (c : Array Value) (xg : List Value) (xi : List Value) (code : Int) (w : World) (e : Ending) (w' : World) : Prop := ∃ gl ng capg cu ge ni capi ci, e = .returned (.tuple #[.agg c, .slice (some ⟨gl, 0, none⟩) ng capg, .slice (some ⟨ge, 0, none⟩) ni capi, .int .i64 code]) ∧ Ap 7 ng capg cu xg ∧ Ap 1 ni capi ci xi ∧ Below w.heap.size w w' ∧ w.heap.size ≤ gl ∧ w.heap.size ≤ ge ∧ gl ≠ ge ∧ w'.heap[gl]? = some (.cells cu 68 (0, 0)) ∧ w'.heap[ge]? = some (.cells ci 2 (0, 0))
theorem NewF.of {w0 w : World} {L : List (Nat × TypeId × Array Value)} {c : Array Value} {xg xi : List Value} {code : Int} {gl ng capg ge ni capi i j : Nat} {cu ci : Array Value} (hA : Ap 7 ng capg cu xg) (hB : Ap 1 ni capi ci xi) (hL : Kn [] w0 w L) (hi : L[i]? = some (gl, 68, cu)) (hj : L[j]? = some (ge, 2, ci)) (hij : i ≠ j) : NewF c xg xi code w0 (.returned (.tuple #[.agg c, .slice (some ⟨gl, 0, none⟩) ng capg, .slice (some ⟨ge, 0, none⟩) ni capi, .int .i64 code])) w :=
  ⟨gl, ng, capg, cu, ge, ni, capi, ci, rfl, hA, hB, hL.toBelow, Kn.fresh hL (List.mem_of_getElem? hi), Kn.fresh hL (List.mem_of_getElem? hj), Kn.ne2 hL hi hj hij, hL.at_ (List.mem_of_getElem? hi), hL.at_ (List.mem_of_getElem? hj)⟩
theorem intA_ap {E : List Int} {n : Nat} (h : E.length = n) (hm : n ≤ maxLen) : Ap 1 n n (intA E) (E.map (Value.int .i64)) := by
  subst h
  exact ⟨by simp, Nat.le_refl _, hm, by simp [intA], by simp only [intA, Nat.mul_one]; exact List.take_of_length_le (by simp)⟩
theorem Wk.s_newB {P : Program} {n : Nat} {O : List Nat} {w0 : World} {l : List (Nat × Value)} {L : List (Nat × TypeId × Array Value)} {Q : Exit → Act → World → Prop} {ops : Array Oper} {o : Oper} {rest : List Oper} {d : Nat} {f : FuncId} {fn : Func} {xs : Array Operand} {ts : Array TypeId} {vs : List Value} {m : Nat} {s : Fd} (hf : P.funcs[f]? = some fn) (hname : (fn.name == "runtime.NumGoroutine") = false) (hb : fn.body.isSome = true) (hg : o.guard = none) (hd : o.dst = some d) (hn : Nat.blt d n = true)
    (hop : o.op = .call { callee := .value (.func f), args := xs, argTypes := ts }) (hargs : evs l xs.toList = some vs)
    (hc : ∀ w, Kn O w0 w L → Calls P f vs.toArray w (NewB m s w)) (h : ∀ gl ge cap cu c, Pv s.p c → Ap 7 m cap cu (s.L.map Gt.cells).flatten → S P ops Q n O w0 rest ((d, .tuple #[.agg c, .slice (some ⟨gl, 0, none⟩) m cap, .slice (some ⟨ge, 0, none⟩) m m]) :: l) ((ge, 2, intA s.E) :: (gl, 68, cu) :: L)) : S P ops Q n O w0 (o :: rest) l L :=
  s_callR (ι := Nat × Nat × Nat × Array Value × Array Value) (fun i => Pv s.p i.2.2.2.2 ∧ Ap 7 m i.2.2.1 i.2.2.2.1 (s.L.map Gt.cells).flatten) (fun i => .tuple #[.agg i.2.2.2.2, .slice (some ⟨i.1, 0, none⟩) m i.2.2.1, .slice (some ⟨i.2.1, 0, none⟩) m m]) (fun i => (i.2.1, 2, intA s.E) :: (i.1, 68, i.2.2.2.1) :: L) hf hname hb hg hd hn hop hargs
    (fun w hL => (hc w hL).mono fun e w' ⟨gl, ge, cap, cu, c, he, hP, hA, hb, h1, h2, hne, hx, hy⟩ => ⟨(gl, ge, cap, cu, c), ⟨hP, hA⟩, he, by
      have hL' := Own.ext hL hb
      refine Kn.add (Kn.add hL' (Nat.le_trans hL.size h1) (fun x hx e => ?_) hx) (Nat.le_trans hL.size h2) (fun x hx e => ?_) hy
      · have := Kn.lt hL hx; (try simp only at e); omega
      · rcases List.mem_cons.1 hx with rfl | hx
        · exact hne e
        · have := Kn.lt hL hx; (try simp only at e); omega⟩) (fun i hi => h i.1 i.2.1 i.2.2.1 i.2.2.2.1 i.2.2.2.2 hi.1 hi.2)
set_option maxRecDepth 100000 in
set_option maxHeartbeats 1600000 in
theorem specFeedByBites_ok (p : Nat → Int) (cs c' : Array Value) (gb off cap : Nat) (L : List Gt) (n : Nat) (w : World) (hp : Pv p cs) (hlen : L.length = n) (hl : Sl w 7 (.slice (some ⟨gb, off, none⟩) n cap) (L.map Gt.cells)) (hok : ∀ s ∈ L, s.ok) (hv : validGt p L = true) (hc' : Pv (fdT n ⟨p, L, List.replicate n 0⟩ (12 * n)).p c') :
    Calls Try.prog 24 #[.agg cs, .slice (some ⟨gb, off, none⟩) n cap] w (NewF c' ((fdT n ⟨p, L, List.replicate n 0⟩ (12 * n)).L.map Gt.cells).flatten ((fdT n ⟨p, L, List.replicate n 0⟩ (12 * n)).E.map (Value.int .i64)) 0 w) := by
  obtain ⟨h20, hfd⟩ := validGt_fd hok hv
  rw [hlen] at h20 hfd
  have hsz := hp.size
  have hE := (fdT_ok0 hfd ⟨cs, hp⟩ 12).1.lE
  have hS : SlA [] w 7 (some ⟨gb, off, none⟩) (L.map Gt.cells) := by
    obtain ⟨A, cap', hv', h1, h2, hS⟩ := hl.open
    injection hv' with e1 e2 e3
    subst e1; exact hS
  have hbt := fun w' (hb : Below w.heap.size w w') => l02Bites_any p cs gb off cap L n w' hp (by omega) hlen hfd (hS.mono (Own.ext (Own.start w) hb))
  generalize fdT n ⟨p, L, List.replicate n 0⟩ (12 * n) = s at *
  refine enter2 Try.func24 rfl rfl rfl (Own.start w) ?_
  repeat' (first | (refine s_g ?_; first | (refine s_k 0 rfl ?_; refine zsv (r_move rfl rfl) ?_) | (refine s_k 8 rfl ?_; first | (refine' s_val rfl rfl rfl (r_ldv rfl rfl ?qm ?qv) ?_; (case qm => (exact zMm)); (case qv => (exact zLe))) | (refine' s_val rfl rfl rfl (r_ldo rfl rfl ?qw (by simp) ?qv) ?_; (case qw => assumption); (case qv => (exact zLe)))) | (refine s_k 1 rfl ?_; refine zsv (r_assign rfl rfl) ?_) | (refine s_k 35 rfl ?_; first | (refine s_call Try.func72 (by kernel_rfl) rfl rfl rfl rfl rfl rfl (fun w hL => (by have q := l02Ok_any p cs _ _ _ L w hp (hL.at_ m1) (hl.below hL.toBelow) hok; rw [hv] at q; exact q)) ?_) | (refine s_newB Try.func73 (by kernel_rfl) rfl rfl rfl rfl rfl rfl (fun w hL => hbt w hL.toBelow) fun gl ge capl cu c hq hA => ?_; obtain rfl := hq.uniq hc')) | (refine s_k 14 rfl ?_; refine zsv (r_not rfl rfl) ?_) | (refine s_k 4 rfl ?_; first | refine s_boxA rfl rfl rfl rfl rfl fun blk => ?_ | refine s_box1 rfl rfl rfl rfl rfl rfl fun blk => ?_) | (refine s_k 9 rfl ?_; (first | refine s_st1 tb rfl rfl rfl rfl rfl rfl rfl rfl ?_ | refine s_stA tb rfl rfl rfl rfl zSz rfl rfl ?_); (first | refine' st0 ?qs ?_ | refine' st1 ?qs ?_ | refine' st2 ?qs ?_ | refine' st3 ?qs ?_ | refine' st4 ?qs ?_ | refine' st5 ?qs ?_ | refine' st6 ?qs ?_ | refine' st7 ?qs ?_ | refine' st8 ?qs ?_ | refine' st9 ?qs ?_ | refine' st10 ?qs ?_ | refine' st11 ?qs ?_); (case qs => (first | exact setP hq (by first | rfl | assumption) | exact zSet))) | (refine s_k 3 rfl ?_; refine s_allocA (t := 36) rfl zImplPas rfl rfl rfl fun blk => ?_) | (refine s_k 34 rfl ?_; refine zsv (r_extractL rfl rfl rfl) ?_) | (refine s_k 5 rfl ?_; refine zsv (r_build rfl rfl (fun w => bPas0 w)) ?_) | (refine s_k 6 rfl ?_; first | refine s_bsl rfl rfl (fun w => slGt0 w) rfl rfl rfl fun blk => ?_ | refine s_bsl rfl rfl (fun w => slI0 w) rfl rfl rfl fun blk => ?_) | refine s_nil ?_) | (refine c_g ?_; first | refine c_seq ?_ | refine c_region ?_ | (refine c_gc ?_; first | refine c_cond1 rfl zTr ?_ | refine c_cond0 rfl zTr ?_) | refine c_block ?_ | refine c_skip ?_ | refine c_exit ?_ | refine c_ret ?_) | (refine e_g ?_; first | refine e_then ?_ | refine e_blkn ?_ | refine e_thenx ?_ | refine e_thenr ?_ | refine e_blkr ?_ | refine e_blkx ?_ | refine e_blky rfl ?_) | (refine e_ret4 (by simp) rfl (re_cell tb rfl m3 rfl zSz) (re_tmp rfl) (re_tmp rfl) (re_tmp rfl) fun w hL => NewF.of (i := 2) (j := 1) hA (intA_ap hE (by unfold maxLen; omega)) hL rfl rfl (by omega)))
theorem s_callW2_0 {P : Program} {ops : Array Oper} {Q : Exit → Act → World → Prop} {n : Nat} {O : List Nat} {w0 : World} {o : Oper} {rest : List Oper} {l : List (Nat × Value)} {L : List (Nat × TypeId × Array Value)} {b1 : Nat × TypeId × Array Value} {g1 g2 : Nat} {T1 T2 Te : TypeId} {c1 c2 ce : Array Value} {f : FuncId} {fn : Func} {xs : Array Operand} {ts : Array TypeId} {vs : List Value} {d : Nat} {vf : Nat → Value} {Pf : Array Value → Array Value → Prop} (hf : P.funcs[f]? = some fn) (hname : (fn.name == "runtime.NumGoroutine") = false) (hb : fn.body.isSome = true) (hg : o.guard = none) (hd : o.dst = some d) (hn : Nat.blt d n = true) (hop : o.op = .call { callee := .value (.func f), args := xs, argTypes := ts }) (hargs : evs l xs.toList = some vs) (hc : ∀ w, Kn O w0 w ((g2, T2, c2) :: b1 :: (g1, T1, c1) :: L) → Calls P f vs.toArray w fun e w' => ∃ ge d1 d2, e = .returned (vf ge) ∧ Pf d1 d2 ∧ Upd2 w w' g1 T1 d1 g2 T2 d2 ∧ w.heap.size ≤ ge ∧ w'.heap[ge]? = some (.cells ce Te (0, 0))) (h : ∀ ge d1 d2, Pf d1 d2 → S P ops Q n O w0 rest ((d, vf ge) :: l) ((ge, Te, ce) :: (g2, T2, d2) :: b1 :: (g1, T1, d1) :: L)) : S P ops Q n O w0 (o :: rest) l ((g2, T2, c2) :: b1 :: (g1, T1, c1) :: L) := s_callR (ι := Nat × Array Value × Array Value) (fun i => Pf i.2.1 i.2.2) (fun i => vf i.1) (fun i => (i.1, Te, ce) :: (g2, T2, i.2.2) :: b1 :: (g1, T1, i.2.1) :: L) hf hname hb hg hd hn hop hargs (fun w hL => (hc w hL).mono fun e w' ⟨ge, d1, d2, he, hP, hu, h1, h2⟩ => ⟨(ge, d1, d2), hP, he, Kn.comp (i := 2) (j := 0) hL rfl rfl (by omega) hu h1 h2⟩) (fun i hi => h i.1 i.2.1 i.2.2 hi)
theorem s_callW3_1 {P : Program} {ops : Array Oper} {Q : Exit → Act → World → Prop} {n : Nat} {O : List Nat} {w0 : World} {o : Oper} {rest : List Oper} {l : List (Nat × Value)} {L : List (Nat × TypeId × Array Value)} {b0 b2 : Nat × TypeId × Array Value} {g1 g2 : Nat} {T1 T2 Te : TypeId} {c1 c2 ce : Array Value} {f : FuncId} {fn : Func} {xs : Array Operand} {ts : Array TypeId} {vs : List Value} {d : Nat} {vf : Nat → Value} {Pf : Array Value → Array Value → Prop} (hf : P.funcs[f]? = some fn) (hname : (fn.name == "runtime.NumGoroutine") = false) (hb : fn.body.isSome = true) (hg : o.guard = none) (hd : o.dst = some d) (hn : Nat.blt d n = true) (hop : o.op = .call { callee := .value (.func f), args := xs, argTypes := ts }) (hargs : evs l xs.toList = some vs) (hc : ∀ w, Kn O w0 w (b0 :: (g2, T2, c2) :: b2 :: (g1, T1, c1) :: L) → Calls P f vs.toArray w fun e w' => ∃ ge d1 d2, e = .returned (vf ge) ∧ Pf d1 d2 ∧ Upd2 w w' g1 T1 d1 g2 T2 d2 ∧ w.heap.size ≤ ge ∧ w'.heap[ge]? = some (.cells ce Te (0, 0))) (h : ∀ ge d1 d2, Pf d1 d2 → S P ops Q n O w0 rest ((d, vf ge) :: l) ((ge, Te, ce) :: b0 :: (g2, T2, d2) :: b2 :: (g1, T1, d1) :: L)) : S P ops Q n O w0 (o :: rest) l (b0 :: (g2, T2, c2) :: b2 :: (g1, T1, c1) :: L) := s_callR (ι := Nat × Array Value × Array Value) (fun i => Pf i.2.1 i.2.2) (fun i => vf i.1) (fun i => (i.1, Te, ce) :: b0 :: (g2, T2, i.2.2) :: b2 :: (g1, T1, i.2.1) :: L) hf hname hb hg hd hn hop hargs (fun w hL => (hc w hL).mono fun e w' ⟨ge, d1, d2, he, hP, hu, h1, h2⟩ => ⟨(ge, d1, d2), hP, he, Kn.comp (i := 3) (j := 1) hL rfl rfl (by omega) hu h1 h2⟩) (fun i hi => h i.1 i.2.1 i.2.2 hi)
theorem cloneGt_any (L : List Gt) (b off cap : Nat) (w : World) (hS : SlA [] w 7 (some ⟨b, off, none⟩) (L.map Gt.cells)) (hn : L.length ≤ 1048576) :
    Calls Try.prog 70 #[.slice (some ⟨b, off, none⟩) L.length cap] w (NewS 68 7 (L.map Gt.cells).flatten w) := by
  refine enter1 Try.func70 rfl rfl rfl (Own.start w) ?_
  repeat' (first | (refine s_g ?_; first | (refine s_k 0 rfl ?_; refine zsv (r_move rfl rfl) ?_) | (refine s_k 1 rfl ?_; refine zsv (r_assign rfl rfl) ?_) | (refine s_k 13 rfl ?_; first | refine zsv (r_eqNil rfl rfl rfl uSlGt) ?_ | refine zsv (r_eql rfl rfl rfl) ?_) | (refine s_k 36 rfl ?_; refine s_appS (pre := []) (post := []) rfl uSlGt iGt rfl (by omega) (Ap.nil 7) hS (by simp) rfl rfl (flGt_one L) (by unfold maxLen; omega) (by omega) rfl rfl rfl fun g cap cur hA => ?_) | (refine s_k 6 rfl ?_; refine s_bsl rfl rfl (fun w => slGt0 w) rfl rfl rfl fun blk => ?_) | refine s_nil ?_) | (refine c_g ?_; first | refine c_seq ?_ | refine c_region ?_ | (refine c_gc ?_; first | refine c_cond1 rfl zTr ?_ | refine c_cond0 rfl zTr ?_) | refine c_block ?_ | refine c_skip ?_ | refine c_exit ?_ | refine c_ret ?_) | (refine e_g ?_; first | refine e_then ?_ | refine e_blkn ?_ | refine e_thenx ?_ | refine e_thenr ?_ | refine e_blkr ?_ | refine e_blkx ?_ | refine e_blky rfl ?_) | (refine e_ret1 (by simp) rfl (re_tmp rfl) fun w hL => NewS.of (by simpa using hA) hL m0))
set_option maxRecDepth 100000 in
set_option maxHeartbeats 1600000 in
theorem implFeedByBites_ok (p : Nat → Int) (cs c' : Array Value) (gb off cap : Nat) (L : List Gt) (w : World) (hp : Pv p cs) (hl : Sl w 7 (.slice (some ⟨gb, off, none⟩) L.length cap) (L.map Gt.cells)) (hok : ∀ s ∈ L, s.ok) (hv : validGt p L = true) (hc' : Pv (fdT L.length ⟨p, L, List.replicate L.length 0⟩ (12 * L.length)).p c') :
    Calls Try.prog 23 #[.agg cs, .slice (some ⟨gb, off, none⟩) L.length cap] w (NewF c' ((fdT L.length ⟨p, L, List.replicate L.length 0⟩ (12 * L.length)).L.map Gt.cells).flatten ((fdT L.length ⟨p, L, List.replicate L.length 0⟩ (12 * L.length)).E.map (Value.int .i64)) 0 w) := by
  obtain ⟨h20, hfd⟩ := validGt_fd hok hv
  have hsz := hp.size
  have hok12 := (fdT_ok0 hfd ⟨cs, hp⟩ 12).1
  have hS : SlA [] w 7 (some ⟨gb, off, none⟩) (L.map Gt.cells) := by
    obtain ⟨A, cap', hv', h1, h2, hS⟩ := hl.open
    injection hv' with e1 e2 e3
    subst e1; exact hS
  have hcl := fun w' (hb : Below w.heap.size w w') => cloneGt_any L gb off cap w' (hS.mono (Own.ext (Own.start w) hb)) (by omega)
  have hfe := fun w gp gl cur capl hne hgp hgl hin => feed_any p cs cur 68 gp gl 0 capl L L.length w hp (by omega) rfl hfd hne hgp hgl hin
  generalize fdT L.length ⟨p, L, List.replicate L.length 0⟩ (12 * L.length) = s at *
  refine enter2 Try.func23 rfl rfl rfl (Own.start w) ?_
  repeat' (first | (refine s_g ?_; first | (refine s_k 0 rfl ?_; refine zsv (r_move rfl rfl) ?_) | (refine s_k 8 rfl ?_; first | (refine' s_val rfl rfl rfl (r_ldv rfl rfl ?qm ?qv) ?_; (case qm => (exact zMm)); (case qv => (exact zLe))) | (refine' s_val rfl rfl rfl (r_ldo rfl rfl ?qw (by simp) ?qv) ?_; (case qw => assumption); (case qv => (exact zLe)))) | (refine s_k 1 rfl ?_; refine zsv (r_assign rfl rfl) ?_) | (refine s_k 13 rfl ?_; refine zsv (r_neq rfl rfl rfl) ?_) | (refine s_k 35 rfl ?_; first | (refine s_call Try.func69 (by kernel_rfl) rfl rfl rfl rfl rfl rfl (fun w hL => (by have q := goatCode_new p cs _ L w hp (hl.below hL.toBelow) hok; rw [hv] at q; exact q)) ?_) | (refine s_callN Try.func70 (by kernel_rfl) rfl rfl rfl rfl rfl rfl (fun w hL => hcl w hL.toBelow) fun gc n capc curc hA => ?_; obtain rfl := hA.count (lenGt L) (by omega); rw [List.length_map] at hA ⊢; have hAs := hA.size; have hAl := hA.le; have hAm := hA.max; have hAi := GtIn.of_ap hA) | (refine s_callW2_0 (vf := fun ge => .slice (some ⟨ge, 0, none⟩) L.length L.length) (ce := intA s.E) (Te := 2) (Pf := fun d1 d2 => d1 = c' ∧ GtIn s.L 0 d2 ∧ d2.size = curc.size) Try.func71 (by kernel_rfl) rfl rfl rfl rfl rfl rfl (fun w hL => (hfe w _ _ _ _ (Kn.ne2 hL (i := 2) (j := 0) rfl rfl (by omega)) (hL.at_ m2) (hL.at_ m0) hAi).mono fun e w' ⟨ge, c1, cu1, he, ⟨hP, hW⟩, hU, h1, h2⟩ => ⟨ge, c1, cu1, he, ⟨hP.uniq hc', hW.ins, hW.size⟩, hU, h1, h2⟩) fun ge d1 d2 hd => ?_; obtain ⟨rfl, hd2, hd3⟩ := hd)) | (refine s_k 4 rfl ?_; first | refine s_boxA rfl rfl rfl rfl rfl fun blk => ?_ | refine s_box1 rfl rfl rfl rfl rfl rfl fun blk => ?_) | (refine s_k 9 rfl ?_; (first | refine s_st1 tb rfl rfl rfl rfl rfl rfl rfl rfl ?_ | refine s_stA tb rfl rfl rfl rfl zSz rfl rfl ?_); (first | refine' st0 ?qs ?_ | refine' st1 ?qs ?_ | refine' st2 ?qs ?_ | refine' st3 ?qs ?_ | refine' st4 ?qs ?_ | refine' st5 ?qs ?_ | refine' st6 ?qs ?_ | refine' st7 ?qs ?_ | refine' st8 ?qs ?_ | refine' st9 ?qs ?_ | refine' st10 ?qs ?_ | refine' st11 ?qs ?_); (case qs => (first | exact setP hc' (by first | rfl | assumption) | exact zSet))) | (refine s_k 3 rfl ?_; refine s_allocA (t := 36) rfl zImplPas rfl rfl rfl fun blk => ?_) | (refine s_k 5 rfl ?_; refine zsv (r_build rfl rfl (fun w => bPas0 w)) ?_) | refine s_nil ?_) | (refine c_g ?_; first | refine c_seq ?_ | refine c_region ?_ | (refine c_gc ?_; first | refine c_cond1 rfl zTr ?_ | refine c_cond0 rfl zTr ?_) | refine c_block ?_ | refine c_skip ?_ | refine c_exit ?_ | refine c_ret ?_) | (refine e_g ?_; first | refine e_then ?_ | refine e_blkn ?_ | refine e_thenx ?_ | refine e_thenr ?_ | refine e_blkr ?_ | refine e_blkx ?_ | refine e_blky rfl ?_) | (refine e_ret4 (by simp) rfl (re_cell tb rfl m2 rfl zSz) (re_tmp rfl) (re_tmp rfl) (re_tmp rfl) fun w hL => NewF.of (i := 1) (j := 0) (GtIn.ap hd2 hok12.lL (by rw [hd3]; exact hAs) hAl hAm) (intA_ap hok12.lE (by unfold maxLen; omega)) hL rfl rfl (by omega)))
theorem fedS_pv {p : Nat → Int} {cs : Array Value} {L : List Gt} (hp : Pv p cs) (hok : ∀ s ∈ L, s.ok) (hv : validGt p L = true) : ∃ c', Pv (fedS p L).p c' := (fdT_ok0 (validGt_fd hok hv).2 ⟨cs, hp⟩ 12).2
section
variable (p : Nat → Int) (cs c' : Array Value) (L : List Gt) (g n cap : Nat) (cur : Array Value) (w : World)
theorem specFeedByBites_new (hp : Pv p cs) (hok : ∀ s ∈ L, s.ok) (hv : validGt p L = true) (hc' : Pv (fedS p L).p c') (hA : Ap 7 n cap cur (L.map Gt.cells).flatten) (hg : w.heap[g]? = some (.cells cur 68 (0, 0))) : Calls Try.prog 24 #[.agg cs, .slice (some ⟨g, 0, none⟩) n cap] w (NewF c' ((fedS p L).L.map Gt.cells).flatten ((fedS p L).E.map (Value.int .i64)) 0 w) := by
  have hsl := hA.toSl (lenGt L) (by omega) hg
  obtain rfl := hA.count (lenGt L) (by omega)
  rw [List.length_map] at hsl ⊢
  exact specFeedByBites_ok p cs c' g 0 cap L L.length w hp rfl hsl hok hv hc'
theorem implFeedByBites_new (hp : Pv p cs) (hok : ∀ s ∈ L, s.ok) (hv : validGt p L = true) (hc' : Pv (fedS p L).p c') (hA : Ap 7 n cap cur (L.map Gt.cells).flatten) (hg : w.heap[g]? = some (.cells cur 68 (0, 0))) : Calls Try.prog 23 #[.agg cs, .slice (some ⟨g, 0, none⟩) n cap] w (NewF c' ((fedS p L).L.map Gt.cells).flatten ((fedS p L).E.map (Value.int .i64)) 0 w) := by
  have hsl := hA.toSl (lenGt L) (by omega) hg
  obtain rfl := hA.count (lenGt L) (by omega)
  rw [List.length_map] at hsl ⊢
  exact implFeedByBites_ok p cs c' g 0 cap L w hp hsl hok hv hc'
end
end Go.Proofs.Ytnfdefeafhepkaa
