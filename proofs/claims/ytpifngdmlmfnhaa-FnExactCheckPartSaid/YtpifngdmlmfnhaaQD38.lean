import Derived.Test.YtpifngdmlmfnhaaQD12
import Derived.Test.YtpifngdmlmfnhaaQD13
import Derived.Test.YtpifngdmlmfnhaaQD21
import Derived.Test.YtpifngdmlmfnhaaQD23
import Derived.Test.YtpifngdmlmfnhaaQD28
import Derived.Test.YtpifngdmlmfnhaaQD36
import Derived.Test.YtpifngdmlmfnhaaQD37
/- CheckPart: the program's. No condition but lengths of at most 2^20. -/
namespace Go.Proofs.Ytpifngdmlmfnhaa.Wk
set_option linter.unusedVariables false
set_option linter.unusedSimpArgs false
open Go Go.RowKit Mem Calm
variable {P : Program} {n : Nat} {O : List Nat} {w0 : World} {l : List (Nat × Value)} {N L : List (Nat × TypeId × Array Value)} {Q : Exit → Act → World → Prop} {ops : Array Oper} {o : Oper} {rest : List Oper} {k d : Nat} {pl : Nat → CalmB.Plan}
/-- the type of a slice that is built -/
def opT : Op → Nat
  | .buildSlice t _ _ => t
  | _ => 0
theorem y_t (t : Nat) (ho : opT o.op = t) (h : Y P ops Q n O w0 pl (o :: rest) k l N L) : Y P ops Q n O w0 pl (o :: rest) k l N L := h
/-- A callee that reads the slice made last and makes one. -/
theorem y_rd1N {f : FuncId} {fn : Func} {xs : Array Operand} {ts : Array TypeId} {vs : List Value} {T T1 : TypeId} {sz m g1 m1 c1 : Nat} {cs1 : Array Value} {cs : List Value} {x1 : Operand} (hf : P.funcs[f]? = some fn) (hname : (fn.name == "runtime.NumGoroutine") = false) (hb : fn.body.isSome = true) (hg : o.guard = none) (hd : o.dst = some d) (hn : Nat.blt d n = true)
    (hop : o.op = .call { callee := .value (.func f), args := xs, argTypes := ts }) (hargs : evs l xs.toList = some vs) (hx1 : x1 ∈ xs.toList) (hv1 : ev l x1 = some (.slice (some ⟨g1, 0, none⟩) m1 c1))
    (hc : ∀ w, Kn O w0 w ((g1, T1, cs1) :: L) → Calls P f vs.toArray w (NewS T sz cs w)) (hlen : cs.length = m * sz) (hmx : m ≤ maxLen) (hp : pl k = .inr (MadeS T sz cs))
    (h : ∀ g m cap cur, Ap sz m cap cur cs → Y P ops Q n O w0 pl rest (k + 1) ((d, .slice (some ⟨g, 0, none⟩) m cap) :: l) ((g, T, cur) :: (g1, T1, cs1) :: N) L) : Y P ops Q n O w0 pl (o :: rest) k l ((g1, T1, cs1) :: N) L := fun a w E hF hL hE => by
  unfold CalmB.wpLex
  rw [if_pos (by simp [Region.wanted, hg])]
  unfold CalmB.pOp
  rw [hp]
  refine ⟨fun N0 => ⟨.slice (some ⟨N0, 0, none⟩) m m, N0, (T, cs.toArray), Nat.le_refl _, m, m, rfl, ⟨hlen, Nat.le_refl _, hmx, by simp [hlen], by simp [← hlen]⟩, rfl⟩, ⟨[(g1, T1, cs1)], fun r hr => ?_, fun w' hb' hR => ?_⟩, fun u g x hM hB he => ?_⟩
  · have e : r = (g1, T1, cs1) := by simpa using hr
    subst e
    exact ⟨ment_arg hop hF hx1 hv1, hE.2 _ List.mem_cons_self⟩
  · show CalmB.mkAt P o a w' _
    obtain ⟨hB1, hH1⟩ := hR _ List.mem_cons_self
    have hK1 : Kn O w0 w' ((g1, T1, cs1) :: L) := Kn.add (Own.ext hL hb') (Nat.le_trans hL.size hB1) (fun y hy => by
      have := (Array.getElem?_eq_some_iff.1 (hL.has y hy)).1
      have hB' : w.heap.size ≤ g1 := hB1
      omega) hH1
    unfold CalmB.mkAt
    rw [run_callc (caps := []) hf hname hb hop rfl (hF.evals hargs) w']
    refine ⟨rfl, ?_⟩
    rw [List.append_nil]
    exact (hc w' hK1).mono fun e w'' ⟨g, m, cap, cur, he, hA, hge, hat, hb⟩ => ⟨_, g, (T, cur), ⟨m, cap, rfl, hA, rfl⟩, he, hge, hat, hb⟩
  · obtain ⟨m', cap, rfl, hA, hT⟩ := hM
    obtain ⟨T', cur⟩ := x
    simp only at hT hA
    subst hT
    rw [hd]
    refine h g m' cap cur hA _ w _ (hF.put hn _) hL ⟨?_, fun b hb => ?_⟩
    · rw [List.map_cons, List.nodup_cons]
      refine ⟨fun hb => ?_, hE.1⟩
      obtain ⟨b, hb, e⟩ := List.mem_map.1 hb
      have := hE.2 b hb; rw [e, he] at this; cases this
    · rcases List.mem_cons.1 hb with rfl | hb
      · exact Calm.upd_same _ _ _
      · rw [Calm.upd_ne _ _ (fun e => by have := hE.2 b hb; rw [e, he] at this; cases this)]; exact hE.2 b hb
end Go.Proofs.Ytpifngdmlmfnhaa.Wk
namespace Go.Proofs.Ytpifngdmlmfnhaa
set_option linter.unusedVariables false
set_option linter.unusedSimpArgs false
open Go.RowKit Mem Wk
attribute [local irreducible] Calls Wk.S Wk.C Wk.E Wk.X Wk.T Wk.Y Wk.anV Wk.orV Wk.andV Wk.shlV Wk.shrV Calm.wpLex CalmB.wpLex bfsN bfs
theorem slSS2 (a b : Option Addr) (m n c d : Nat) (w : World) : (Instr.buildSlice 76 2 #[(0, .slice a m c), (1, .slice b n d)]).run Try.prog w = .ok (.slice (some ⟨w.heap.size, 0, none⟩) 2 2) (w.alloc (.cells #[.slice a m c, .slice b n d] 40 (0, 0))) := by kernel_rfl
theorem SSs.two {w : World} {a b : List Sp} {va vb : Value} (h1 : Sl w 2 va (a.map Sp.cells)) (h2 : Sl w 2 vb (b.map Sp.cells)) : SSs w [a, b] [va, vb] #[va, vb] := by
  refine ⟨rfl, fun j v hv => ?_, fun j s v hs hv => ?_⟩
  · match j, hv with
    | 0, hv => simpa using hv
    | 1, hv => simpa using hv
  · match j, hs, hv with
    | 0, hs, hv =>
      simp at hs hv; subst hs; subst hv; exact h1
    | 1, hs, hv =>
      simp at hs hv; subst hs; subst hv; exact h2
set_option maxRecDepth 100000 in
set_option maxHeartbeats 1600000 in
theorem implPar_any (p : Nat → Int) (cs : Array Value) (a b : List Sp) (l : List Hd) (ga na capa gb nb capb : Nat) (cura curb : Array Value) (vl : Value) (w : World) (hp : Pv p cs) (hAa : Ap 2 na capa cura (flS a)) (hga : w.heap[ga]? = some (.cells cura 88 (0, 0))) (hAb : Ap 2 nb capb curb (flS b)) (hgb : w.heap[gb]? = some (.cells curb 88 (0, 0))) (hUl : Sl w 3 vl (l.map Hd.cells)) (hna : a.length + b.length ≤ 1048576) (hnl : l.length ≤ 1048576) (hoa : ∀ c ∈ a, c.ok) (hob : ∀ c ∈ b, c.ok) (hol : ∀ c ∈ l, c.ok) :
    Calls Try.prog 47 #[.agg cs, .slice (some ⟨ga, 0, none⟩) na capa, .slice (some ⟨gb, 0, none⟩) nb capb, vl] w fun e w' => e = .returned (.tuple #[.bool (parV p a b l), .int .i64 (parC p a b l)]) ∧ Below w.heap.size w w' := by
  have hsz := hp.size
  have hUa := hAa.toSl (lenSp a) (by omega) hga
  have hUb := hAb.toSl (lenSp b) (by omega) hgb
  obtain rfl := hAa.cnt
  obtain rfl := hAb.cnt
  obtain ⟨C, capl, rfl, _, _, hSl⟩ := hUl.open
  rw [List.length_map]
  have hmxl : l.length ≤ maxLen := by unfold maxLen; omega
  have hoab : ∀ c ∈ a ++ b, c.ok := fun c hc => (List.mem_append.1 hc).elim (hoa c) (hob c)
  have hfl : [a, b].flatten = a ++ b := by simp
  have hlen : (a ++ b).length ≤ 1048576 := by simp; omega
  have hmx : (a ++ b).length ≤ maxLen := by unfold maxLen; omega
  have hhc := fun w hS => hurdleCode_any p cs l C capl w hp hS hmxl hol
  have hf0 : fstC [cellC p (a ++ b), hurdleC p l] = parC p a b l := rfl
  have hsome := fun (h0 : 0 < (a ++ b).length) (w' : World) (hb' : Below w.heap.size w w') g hg => by
    have q := concat_some [a, b] [_, _] g 2 _ 40 w' hg (SSs.two (hUa.below hb') (hUb.below hb')) (by rw [hfl]; omega) (by simp) (by rw [hfl]; exact h0)
    rw [hfl] at q
    exact q
  have hnone := fun (h0 : (a ++ b).length = 0) (w' : World) (hb' : Below w.heap.size w w') g hg => concat_none [a, b] [_, _] g 2 _ 40 w' hg (SSs.two (hUa.below hb') (hUb.below hb')) (by simp) (by rw [hfl]; exact h0)
  unfold parV
  by_cases hz : 0 < (a ++ b).length
  case pos =>
    have hcc : ∀ w g k cap cur, Ap 2 k cap cur (flS (a ++ b)) → w.heap[g]? = some (.cells cur 88 (0, 0)) → Calls Try.prog 133 #[.agg cs, .slice (some ⟨g, 0, none⟩) k cap] w fun e w' => e = .returned (.int .i64 (cellC p (a ++ b))) ∧ Below w.heap.size w w' := fun w g k cap cur hA hg => cellCode_any p cs _ (a ++ b) w hp (hA.toSl (lenSp (a ++ b)) (by omega) hg) hoab
    have hso := hsome hz
    by_cases h0 : parC p a b l = 0
    case neg =>
      rw [if_neg h0]
      generalize parC p a b l = c at *
      generalize cellC p (a ++ b) = c1 at *
      generalize hurdleC p l = c2 at *
      refine enter4 Try.func47 rfl rfl rfl (Own.start w) ?_
      repeat' (first
        | (refine s_g ?_; first
      | (refine s_k 0 rfl ?_; refine s_val rfl rfl rfl (r_move rfl rfl) ?_)
      | (refine s_k 8 rfl ?_; first | (refine' s_val rfl rfl rfl (r_ldv rfl rfl ?qm ?qv) ?_; (case qm => (exact zMm)); (case qv => (exact zLe))) | (refine' s_val rfl rfl rfl (r_ldo rfl rfl ?qw (by simp) ?qv) ?_; (case qw => assumption); (case qv => (exact zLe))))
      | (refine s_k 1 rfl ?_; refine s_val rfl rfl rfl (r_assign rfl rfl) ?_)
      | (refine s_k 13 rfl ?_; refine s_val rfl rfl rfl (r_neq rfl rfl rfl) ?_)
      | (refine s_k 35 rfl ?_; (refine s_call Try.func135 (by kernel_rfl) rfl rfl rfl rfl rfl rfl (fun w hL => hhc w (hSl.at_ hL)) ?_))
      | (refine s_k 14 rfl ?_; refine s_val rfl rfl rfl (r_not rfl rfl) ?_)
      | (refine s_k 4 rfl ?_; first | refine s_boxA rfl rfl rfl rfl rfl fun blk => ?_ | refine s_box1 rfl rfl rfl rfl rfl rfl fun blk => ?_)
      | (refine s_k 9 rfl ?_; (first | refine s_st1 tb rfl rfl rfl rfl rfl rfl rfl rfl ?_ | refine s_stA tb rfl rfl rfl rfl (by first | rfl | assumption | (apply Pv.size; assumption)) rfl rfl ?_); (first | refine' st0 ?qs ?_ | refine' st1 ?qs ?_ | refine' st2 ?qs ?_ | refine' st3 ?qs ?_ | refine' st4 ?qs ?_ | refine' st5 ?qs ?_ | refine' st6 ?qs ?_ | refine' st7 ?qs ?_ | refine' st8 ?qs ?_ | refine' st9 ?qs ?_ | refine' st10 ?qs ?_ | refine' st11 ?qs ?_); (case qs => (first | exact zSet)))
      | (refine s_k 18 rfl ?_; refine s_val rfl rfl rfl (r_func rfl rfl rfl) ?_)
      | refine s_nil ?_)
        | (refine c_g ?_; first | refine c_seq ?_ | refine c_region ?_ | (refine c_gc ?_; first | refine c_cond1 rfl zTr ?_ | refine c_cond0 rfl zTr ?_ | refine z_condd1 rfl ?_ | refine z_condd0 rfl ?_ | refine z_conddn1 rfl ?_ | refine z_conddn0 rfl ?_ | refine c_condd rfl (fun hc => ?_) (fun hc => ?_) | refine c_conddn rfl (fun hc => ?_) (fun hc => ?_) | refine c_condn rfl (fun hc => ?_) (fun hc => ?_) | refine c_cond rfl (fun hc => ?_) (fun hc => ?_)) | refine c_block ?_ | refine c_skip ?_ | refine c_exit ?_ | refine c_ret ?_)
        | (refine e_g ?_; first | refine e_then ?_ | refine e_blkn ?_ | refine e_thenx ?_ | refine e_thenr ?_ | refine e_blkr ?_ | refine e_blkx ?_ | refine e_blky rfl ?_)
        | (refine y_g ?_; first
      | (refine y_k 8 rfl ?_; first | (refine' y_val rfl rfl rfl (r_ldv rfl rfl ?qm ?qv) ?hp ?_; (case qm => (exact zMm)); (case qv => (exact zLe)); (case hp => exact rfl)) | (refine' y_val rfl rfl rfl (r_ldo rfl rfl ?qw (by simp) ?qv) ?hp ?_; (case qw => assumption); (case qv => (exact zLe)); (case hp => exact rfl)))
      | (refine y_k 13 rfl ?_; (refine y_val rfl rfl rfl (r_neq rfl rfl rfl) ?hp ?_; (case hp => exact rfl)))
      | (refine y_k 35 rfl ?_; first | (refine y_call Try.func135 (by kernel_rfl) rfl rfl rfl rfl rfl rfl (fun w hL => hhc w (hSl.at_ hL)) ?hp ?_; (case hp => exact rfl)) | (refine' y_rd1N Try.func134 (by kernel_rfl) rfl rfl rfl rfl rfl rfl List.mem_cons_self rfl (fun w hL => hso w hL.toBelow _ (hL.at_ m0)) (flS_len (a ++ b)) hmx ?hp (fun gc kc capc curc hAc => ?_); (case hp => exact rfl)) | (refine' y_rd Try.func133 (by kernel_rfl) rfl rfl rfl rfl rfl rfl List.mem_cons_self (List.mem_cons_of_mem _ List.mem_cons_self) rfl (fun w hL => hcc w _ _ _ _ hAc (hL.at_ m0)) ?hp ?_; (case hp => exact rfl)) | (refine' y_rd Try.func100 (by kernel_rfl) rfl rfl rfl rfl rfl rfl List.mem_cons_self List.mem_cons_self rfl (fun w hL => fo2v hf0 (hL.at_ m0)) ?hp ?_; (case hp => exact rfl)))
      | (refine y_k 14 rfl ?_; (refine y_val rfl rfl rfl (r_not rfl rfl) ?hp ?_; (case hp => exact rfl)))
      | (refine y_k 18 rfl ?_; (refine y_val rfl rfl rfl (r_func rfl rfl rfl) ?hp ?_; (case hp => exact rfl)))
      | refine y_nil0 ?_
      | refine y_nil ?_
      | (refine' y_k 0 rfl ?_; (refine' y_move rfl rfl rfl rfl rfl ?hp ?_; (case hp => exact rfl)))
      | (refine' y_k 1 rfl ?_; (refine' y_assign rfl rfl rfl rfl rfl ?hp ?_; (case hp => exact rfl))))
        | (refine' c_drawY (id := 1) [(Sum.inl _ : CalmB.Plan), (Sum.inl _ : CalmB.Plan), (Sum.inl _ : CalmB.Plan), (Sum.inr _ : CalmB.Plan), (Sum.inr _ : CalmB.Plan), (Sum.inl _ : CalmB.Plan), (Sum.inl _ : CalmB.Plan), (Sum.inl _ : CalmB.Plan), (Sum.inl _ : CalmB.Plan), (Sum.inr _ : CalmB.Plan), (Sum.inl _ : CalmB.Plan), (Sum.inl _ : CalmB.Plan)] (by kernel_rfl) (by kernel_rfl) ?_)
        | (refine' y_t 76 rfl ?_; refine' y_bsl rfl rfl (fun w => slSS2 _ _ _ _ _ _ w) rfl rfl rfl ?hp (fun g15 => ?_); (case hp => exact rfl))
        | (refine' y_t 108 rfl ?_; refine' y_bsl rfl rfl (fun w => slInt2 _ _ w) rfl rfl rfl ?hp (fun g21 => ?_); (case hp => exact rfl))
        | (refine e_ret2 (by simp) rfl (re_tmp rfl) (re_tmp rfl) fun w hL => ⟨rfl, hL.toBelow⟩))
    case pos =>
      obtain ⟨hv, hca, hcb, hh0, ha0, hb0⟩ := parC_0 h0
      rw [if_pos h0]
      rw [h0] at hf0 ⊢
      have hInP := inP_all (hurdleC_0 hh0)
      obtain ⟨c', hc'⟩ := foldP_ex (on := true) hp hInP
      have hput := fun w hS => with_any p cs c' l true C capl w hp hS hmxl hInP hc'
      unfold parB
      generalize foldP p l true = q at *
      have hsz' := hc'.size
      have hra : ∀ c ∈ a, inR c := fun c hc => isC_range (hca c hc)
      have hrb : ∀ c ∈ b, inR c := fun c hc => isC_range (hcb c hc)
      have hfar := fun w hS => far_any q c' a ga 0 capa w hc' hra (by omega) hS
      have hD := stepsP_val q hra
      have hT : GI .i16 1 (stepsP q a).1 (giA .i16 1 (stepsP q a).1) := giA_ok .i16 1 _
      generalize (stepsP q a).1 = D at *
      generalize cellC p (a ++ b) = c1 at *
      generalize hurdleC p l = c2 at *
      have hmb : b.length ≤ maxLen := by unfold maxLen; omega
      refine enter4 Try.func47 rfl rfl rfl (Own.start w) ?_
      repeat' (first
        | (refine s_g ?_; first
      | (refine s_k 0 rfl ?_; refine s_val rfl rfl rfl (r_move rfl rfl) ?_)
      | (refine s_k 8 rfl ?_; first | (refine' s_val rfl rfl rfl (r_ldv rfl rfl ?qm ?qv) ?_; (case qm => (exact zMm)); (case qv => (exact zLe))) | (refine' s_val rfl rfl rfl (r_ldo rfl rfl ?qw (by simp) ?qv) ?_; (case qw => assumption); (case qv => (exact zLe))))
      | (refine s_k 1 rfl ?_; refine s_val rfl rfl rfl (r_assign rfl rfl) ?_)
      | (refine s_k 13 rfl ?_; refine s_val rfl rfl rfl (r_neq rfl rfl rfl) ?_)
      | (refine s_k 35 rfl ?_; first | (refine s_call Try.func135 (by kernel_rfl) rfl rfl rfl rfl rfl rfl (fun w hL => hhc w (hSl.at_ hL)) ?_) | (refine s_call Try.func136 (by kernel_rfl) rfl rfl rfl rfl rfl rfl (fun w hL => hput w (hSl.at_ hL)) ?_) | (refine s_call Try.func137 (by kernel_rfl) rfl rfl rfl rfl rfl rfl (fun w hL => hfar w (hAa.slA (lenSp a) (Kn.old hL hga (by simp)))) ?_) | (refine s_call Try.func138 (by kernel_rfl) rfl rfl rfl rfl rfl rfl (fun w hL => hasSpF_any b (some ⟨gb, 0, none⟩) capb 139 _ [_] (fun c => decide (0 ≤ D (ci c) - 1)) w (hAb.slA (lenSp b) (Kn.old hL hgb (by simp))) hmb Try.func139 (by kernel_rfl) rfl (fun c hc w' hb' => parClo_any D _ _ _ c.x c.y w' hT hD (block_below0 (hL.at_ m0) hb') ⟨(hrb c hc).1, (hrb c hc).2.1⟩ (hrb c hc).2.2)) ?_))
      | (refine s_k 14 rfl ?_; refine s_val rfl rfl rfl (r_not rfl rfl) ?_)
      | (refine s_k 4 rfl ?_; first | refine s_boxA rfl rfl rfl rfl rfl fun blk => ?_ | refine s_box1 rfl rfl rfl rfl rfl rfl fun blk => ?_)
      | (refine s_k 9 rfl ?_; (first | refine s_st1 tb rfl rfl rfl rfl rfl rfl rfl rfl ?_ | refine s_stA tb rfl rfl rfl rfl (by first | rfl | assumption | (apply Pv.size; assumption)) rfl rfl ?_); (first | refine' st0 ?qs ?_ | refine' st1 ?qs ?_ | refine' st2 ?qs ?_ | refine' st3 ?qs ?_ | refine' st4 ?qs ?_ | refine' st5 ?qs ?_ | refine' st6 ?qs ?_ | refine' st7 ?qs ?_ | refine' st8 ?qs ?_ | refine' st9 ?qs ?_ | refine' st10 ?qs ?_ | refine' st11 ?qs ?_); (case qs => (first | exact setG (giA_ok _ _ _) zSt_ok.size | exact zSet)))
      | (refine s_k 3 rfl ?_; refine s_allocA (t := 182) rfl zStepsV rfl rfl rfl fun blk => ?_)
      | (refine s_k 18 rfl ?_; refine s_val rfl rfl rfl (r_func rfl rfl rfl) ?_)
      | refine s_nil ?_)
        | (refine c_g ?_; first | refine c_seq ?_ | refine c_region ?_ | (refine c_gc ?_; first | refine c_cond1 rfl zTr ?_ | refine c_cond0 rfl zTr ?_ | refine z_condd1 rfl ?_ | refine z_condd0 rfl ?_ | refine z_conddn1 rfl ?_ | refine z_conddn0 rfl ?_ | refine c_condd rfl (fun hc => ?_) (fun hc => ?_) | refine c_conddn rfl (fun hc => ?_) (fun hc => ?_) | refine c_condn rfl (fun hc => ?_) (fun hc => ?_) | refine c_cond rfl (fun hc => ?_) (fun hc => ?_)) | refine c_block ?_ | refine c_skip ?_ | refine c_exit ?_ | refine c_ret ?_)
        | (refine e_g ?_; first | refine e_then ?_ | refine e_blkn ?_ | refine e_thenx ?_ | refine e_thenr ?_ | refine e_blkr ?_ | refine e_blkx ?_ | refine e_blky rfl ?_)
        | (refine y_g ?_; first
      | (refine y_k 8 rfl ?_; first | (refine' y_val rfl rfl rfl (r_ldv rfl rfl ?qm ?qv) ?hp ?_; (case qm => (exact zMm)); (case qv => (exact zLe)); (case hp => exact rfl)) | (refine' y_val rfl rfl rfl (r_ldo rfl rfl ?qw (by simp) ?qv) ?hp ?_; (case qw => assumption); (case qv => (exact zLe)); (case hp => exact rfl)))
      | (refine y_k 13 rfl ?_; (refine y_val rfl rfl rfl (r_neq rfl rfl rfl) ?hp ?_; (case hp => exact rfl)))
      | (refine y_k 35 rfl ?_; first | (refine y_call Try.func135 (by kernel_rfl) rfl rfl rfl rfl rfl rfl (fun w hL => hhc w (hSl.at_ hL)) ?hp ?_; (case hp => exact rfl)) | (refine y_call Try.func136 (by kernel_rfl) rfl rfl rfl rfl rfl rfl (fun w hL => hput w (hSl.at_ hL)) ?hp ?_; (case hp => exact rfl)) | (refine y_call Try.func137 (by kernel_rfl) rfl rfl rfl rfl rfl rfl (fun w hL => hfar w (hAa.slA (lenSp a) (Kn.old hL hga (by simp)))) ?hp ?_; (case hp => exact rfl)) | (refine y_call Try.func138 (by kernel_rfl) rfl rfl rfl rfl rfl rfl (fun w hL => hasSpF_any b (some ⟨gb, 0, none⟩) capb 139 _ [_] (fun c => decide (0 ≤ D (ci c) - 1)) w (hAb.slA (lenSp b) (Kn.old hL hgb (by simp))) hmb Try.func139 (by kernel_rfl) rfl (fun c hc w' hb' => parClo_any D _ _ _ c.x c.y w' hT hD (block_below0 (hL.at_ m0) hb') ⟨(hrb c hc).1, (hrb c hc).2.1⟩ (hrb c hc).2.2)) ?hp ?_; (case hp => exact rfl)) | (refine' y_rd1N Try.func134 (by kernel_rfl) rfl rfl rfl rfl rfl rfl List.mem_cons_self rfl (fun w hL => hso w hL.toBelow _ (hL.at_ m0)) (flS_len (a ++ b)) hmx ?hp (fun gc kc capc curc hAc => ?_); (case hp => exact rfl)) | (refine' y_rd Try.func133 (by kernel_rfl) rfl rfl rfl rfl rfl rfl List.mem_cons_self (List.mem_cons_of_mem _ List.mem_cons_self) rfl (fun w hL => hcc w _ _ _ _ hAc (hL.at_ m0)) ?hp ?_; (case hp => exact rfl)) | (refine' y_rd Try.func100 (by kernel_rfl) rfl rfl rfl rfl rfl rfl List.mem_cons_self List.mem_cons_self rfl (fun w hL => fo2v hf0 (hL.at_ m0)) ?hp ?_; (case hp => exact rfl)))
      | (refine y_k 14 rfl ?_; (refine y_val rfl rfl rfl (r_not rfl rfl) ?hp ?_; (case hp => exact rfl)))
      | (refine y_k 18 rfl ?_; (refine y_val rfl rfl rfl (r_func rfl rfl rfl) ?hp ?_; (case hp => exact rfl)))
      | refine y_nil0 ?_
      | refine y_nil ?_
      | (refine' y_k 0 rfl ?_; (refine' y_move rfl rfl rfl rfl rfl ?hp ?_; (case hp => exact rfl)))
      | (refine' y_k 1 rfl ?_; (refine' y_assign rfl rfl rfl rfl rfl ?hp ?_; (case hp => exact rfl))))
        | (refine' c_drawY (id := 1) [(Sum.inl _ : CalmB.Plan), (Sum.inl _ : CalmB.Plan), (Sum.inl _ : CalmB.Plan), (Sum.inr _ : CalmB.Plan), (Sum.inr _ : CalmB.Plan), (Sum.inl _ : CalmB.Plan), (Sum.inl _ : CalmB.Plan), (Sum.inl _ : CalmB.Plan), (Sum.inl _ : CalmB.Plan), (Sum.inr _ : CalmB.Plan), (Sum.inl _ : CalmB.Plan), (Sum.inl _ : CalmB.Plan)] (by kernel_rfl) (by kernel_rfl) ?_)
        | (refine' y_t 76 rfl ?_; refine' y_bsl rfl rfl (fun w => slSS2 _ _ _ _ _ _ w) rfl rfl rfl ?hp (fun g15 => ?_); (case hp => exact rfl))
        | (refine' y_t 108 rfl ?_; refine' y_bsl rfl rfl (fun w => slInt2 _ _ w) rfl rfl rfl ?hp (fun g21 => ?_); (case hp => exact rfl))
        | (refine e_ret2 (by simp) rfl (re_tmp rfl) (re_tmp rfl) fun w hL => ⟨rfl, hL.toBelow⟩))
  case neg =>
    have hz0 : (a ++ b).length = 0 := by omega
    have hnil : a ++ b = [] := List.length_eq_zero_iff.1 hz0
    have hcc : ∀ w, Calls Try.prog 133 #[.agg cs, .slice none 0 0] w fun e w' => e = .returned (.int .i64 (cellC p (a ++ b))) ∧ Below w.heap.size w w' := fun w => by rw [hnil]; exact cellCode_any p cs _ [] w hp (sl_nil _ _) (by simp)
    have hso := hnone hz0
    by_cases h0 : parC p a b l = 0
    case neg =>
      rw [if_neg h0]
      generalize parC p a b l = c at *
      generalize cellC p (a ++ b) = c1 at *
      generalize hurdleC p l = c2 at *
      refine enter4 Try.func47 rfl rfl rfl (Own.start w) ?_
      repeat' (first
        | (refine s_g ?_; first
      | (refine s_k 0 rfl ?_; refine s_val rfl rfl rfl (r_move rfl rfl) ?_)
      | (refine s_k 8 rfl ?_; first | (refine' s_val rfl rfl rfl (r_ldv rfl rfl ?qm ?qv) ?_; (case qm => (exact zMm)); (case qv => (exact zLe))) | (refine' s_val rfl rfl rfl (r_ldo rfl rfl ?qw (by simp) ?qv) ?_; (case qw => assumption); (case qv => (exact zLe))))
      | (refine s_k 1 rfl ?_; refine s_val rfl rfl rfl (r_assign rfl rfl) ?_)
      | (refine s_k 13 rfl ?_; refine s_val rfl rfl rfl (r_neq rfl rfl rfl) ?_)
      | (refine s_k 35 rfl ?_; first | (refine s_call Try.func135 (by kernel_rfl) rfl rfl rfl rfl rfl rfl (fun w hL => hhc w (hSl.at_ hL)) ?_) | (refine s_call Try.func133 (by kernel_rfl) rfl rfl rfl rfl rfl rfl (fun w hL => hcc w) ?_))
      | (refine s_k 14 rfl ?_; refine s_val rfl rfl rfl (r_not rfl rfl) ?_)
      | (refine s_k 4 rfl ?_; first | refine s_boxA rfl rfl rfl rfl rfl fun blk => ?_ | refine s_box1 rfl rfl rfl rfl rfl rfl fun blk => ?_)
      | (refine s_k 9 rfl ?_; (first | refine s_st1 tb rfl rfl rfl rfl rfl rfl rfl rfl ?_ | refine s_stA tb rfl rfl rfl rfl (by first | rfl | assumption | (apply Pv.size; assumption)) rfl rfl ?_); (first | refine' st0 ?qs ?_ | refine' st1 ?qs ?_ | refine' st2 ?qs ?_ | refine' st3 ?qs ?_ | refine' st4 ?qs ?_ | refine' st5 ?qs ?_ | refine' st6 ?qs ?_ | refine' st7 ?qs ?_ | refine' st8 ?qs ?_ | refine' st9 ?qs ?_ | refine' st10 ?qs ?_ | refine' st11 ?qs ?_); (case qs => (first | exact zSet)))
      | (refine s_k 18 rfl ?_; refine s_val rfl rfl rfl (r_func rfl rfl rfl) ?_)
      | refine s_nil ?_)
        | (refine c_g ?_; first | refine c_seq ?_ | refine c_region ?_ | (refine c_gc ?_; first | refine c_cond1 rfl zTr ?_ | refine c_cond0 rfl zTr ?_ | refine z_condd1 rfl ?_ | refine z_condd0 rfl ?_ | refine z_conddn1 rfl ?_ | refine z_conddn0 rfl ?_ | refine c_condd rfl (fun hc => ?_) (fun hc => ?_) | refine c_conddn rfl (fun hc => ?_) (fun hc => ?_) | refine c_condn rfl (fun hc => ?_) (fun hc => ?_) | refine c_cond rfl (fun hc => ?_) (fun hc => ?_)) | refine c_block ?_ | refine c_skip ?_ | refine c_exit ?_ | refine c_ret ?_)
        | (refine e_g ?_; first | refine e_then ?_ | refine e_blkn ?_ | refine e_thenx ?_ | refine e_thenr ?_ | refine e_blkr ?_ | refine e_blkx ?_ | refine e_blky rfl ?_)
        | (refine y_g ?_; first
      | (refine y_k 8 rfl ?_; first | (refine' y_val rfl rfl rfl (r_ldv rfl rfl ?qm ?qv) ?hp ?_; (case qm => (exact zMm)); (case qv => (exact zLe)); (case hp => exact rfl)) | (refine' y_val rfl rfl rfl (r_ldo rfl rfl ?qw (by simp) ?qv) ?hp ?_; (case qw => assumption); (case qv => (exact zLe)); (case hp => exact rfl)))
      | (refine y_k 13 rfl ?_; (refine y_val rfl rfl rfl (r_neq rfl rfl rfl) ?hp ?_; (case hp => exact rfl)))
      | (refine y_k 35 rfl ?_; first | (refine y_call Try.func135 (by kernel_rfl) rfl rfl rfl rfl rfl rfl (fun w hL => hhc w (hSl.at_ hL)) ?hp ?_; (case hp => exact rfl)) | (refine y_call Try.func133 (by kernel_rfl) rfl rfl rfl rfl rfl rfl (fun w hL => hcc w) ?hp ?_; (case hp => exact rfl)) | (refine' y_rd Try.func134 (by kernel_rfl) rfl rfl rfl rfl rfl rfl List.mem_cons_self List.mem_cons_self rfl (fun w hL => hso w hL.toBelow _ (hL.at_ m0)) ?hp ?_; (case hp => exact rfl)) | (refine' y_rd Try.func100 (by kernel_rfl) rfl rfl rfl rfl rfl rfl List.mem_cons_self List.mem_cons_self rfl (fun w hL => fo2v hf0 (hL.at_ m0)) ?hp ?_; (case hp => exact rfl)))
      | (refine y_k 14 rfl ?_; (refine y_val rfl rfl rfl (r_not rfl rfl) ?hp ?_; (case hp => exact rfl)))
      | (refine y_k 18 rfl ?_; (refine y_val rfl rfl rfl (r_func rfl rfl rfl) ?hp ?_; (case hp => exact rfl)))
      | refine y_nil0 ?_
      | refine y_nil ?_
      | (refine' y_k 0 rfl ?_; (refine' y_move rfl rfl rfl rfl rfl ?hp ?_; (case hp => exact rfl)))
      | (refine' y_k 1 rfl ?_; (refine' y_assign rfl rfl rfl rfl rfl ?hp ?_; (case hp => exact rfl))))
        | (refine' c_drawY (id := 1) [(Sum.inl _ : CalmB.Plan), (Sum.inl _ : CalmB.Plan), (Sum.inl _ : CalmB.Plan), (Sum.inr _ : CalmB.Plan), (Sum.inl _ : CalmB.Plan), (Sum.inl _ : CalmB.Plan), (Sum.inl _ : CalmB.Plan), (Sum.inl _ : CalmB.Plan), (Sum.inl _ : CalmB.Plan), (Sum.inr _ : CalmB.Plan), (Sum.inl _ : CalmB.Plan), (Sum.inl _ : CalmB.Plan)] (by kernel_rfl) (by kernel_rfl) ?_)
        | (refine' y_t 76 rfl ?_; refine' y_bsl rfl rfl (fun w => slSS2 _ _ _ _ _ _ w) rfl rfl rfl ?hp (fun g15 => ?_); (case hp => exact rfl))
        | (refine' y_t 108 rfl ?_; refine' y_bsl rfl rfl (fun w => slInt2 _ _ w) rfl rfl rfl ?hp (fun g21 => ?_); (case hp => exact rfl))
        | (refine e_ret2 (by simp) rfl (re_tmp rfl) (re_tmp rfl) fun w hL => ⟨rfl, hL.toBelow⟩))
    case pos =>
      obtain ⟨hv, hca, hcb, hh0, ha0, hb0⟩ := parC_0 h0
      rw [if_pos h0]
      rw [h0] at hf0 ⊢
      have hInP := inP_all (hurdleC_0 hh0)
      obtain ⟨c', hc'⟩ := foldP_ex (on := true) hp hInP
      have hput := fun w hS => with_any p cs c' l true C capl w hp hS hmxl hInP hc'
      unfold parB
      generalize foldP p l true = q at *
      have hsz' := hc'.size
      have hra : ∀ c ∈ a, inR c := fun c hc => isC_range (hca c hc)
      have hrb : ∀ c ∈ b, inR c := fun c hc => isC_range (hcb c hc)
      have hfar := fun w hS => far_any q c' a ga 0 capa w hc' hra (by omega) hS
      have hD := stepsP_val q hra
      have hT : GI .i16 1 (stepsP q a).1 (giA .i16 1 (stepsP q a).1) := giA_ok .i16 1 _
      generalize (stepsP q a).1 = D at *
      generalize cellC p (a ++ b) = c1 at *
      generalize hurdleC p l = c2 at *
      have hmb : b.length ≤ maxLen := by unfold maxLen; omega
      refine enter4 Try.func47 rfl rfl rfl (Own.start w) ?_
      repeat' (first
        | (refine s_g ?_; first
      | (refine s_k 0 rfl ?_; refine s_val rfl rfl rfl (r_move rfl rfl) ?_)
      | (refine s_k 8 rfl ?_; first | (refine' s_val rfl rfl rfl (r_ldv rfl rfl ?qm ?qv) ?_; (case qm => (exact zMm)); (case qv => (exact zLe))) | (refine' s_val rfl rfl rfl (r_ldo rfl rfl ?qw (by simp) ?qv) ?_; (case qw => assumption); (case qv => (exact zLe))))
      | (refine s_k 1 rfl ?_; refine s_val rfl rfl rfl (r_assign rfl rfl) ?_)
      | (refine s_k 13 rfl ?_; refine s_val rfl rfl rfl (r_neq rfl rfl rfl) ?_)
      | (refine s_k 35 rfl ?_; first | (refine s_call Try.func135 (by kernel_rfl) rfl rfl rfl rfl rfl rfl (fun w hL => hhc w (hSl.at_ hL)) ?_) | (refine s_call Try.func133 (by kernel_rfl) rfl rfl rfl rfl rfl rfl (fun w hL => hcc w) ?_) | (refine s_call Try.func136 (by kernel_rfl) rfl rfl rfl rfl rfl rfl (fun w hL => hput w (hSl.at_ hL)) ?_) | (refine s_call Try.func137 (by kernel_rfl) rfl rfl rfl rfl rfl rfl (fun w hL => hfar w (hAa.slA (lenSp a) (Kn.old hL hga (by simp)))) ?_) | (refine s_call Try.func138 (by kernel_rfl) rfl rfl rfl rfl rfl rfl (fun w hL => hasSpF_any b (some ⟨gb, 0, none⟩) capb 139 _ [_] (fun c => decide (0 ≤ D (ci c) - 1)) w (hAb.slA (lenSp b) (Kn.old hL hgb (by simp))) hmb Try.func139 (by kernel_rfl) rfl (fun c hc w' hb' => parClo_any D _ _ _ c.x c.y w' hT hD (block_below0 (hL.at_ m0) hb') ⟨(hrb c hc).1, (hrb c hc).2.1⟩ (hrb c hc).2.2)) ?_))
      | (refine s_k 14 rfl ?_; refine s_val rfl rfl rfl (r_not rfl rfl) ?_)
      | (refine s_k 4 rfl ?_; first | refine s_boxA rfl rfl rfl rfl rfl fun blk => ?_ | refine s_box1 rfl rfl rfl rfl rfl rfl fun blk => ?_)
      | (refine s_k 9 rfl ?_; (first | refine s_st1 tb rfl rfl rfl rfl rfl rfl rfl rfl ?_ | refine s_stA tb rfl rfl rfl rfl (by first | rfl | assumption | (apply Pv.size; assumption)) rfl rfl ?_); (first | refine' st0 ?qs ?_ | refine' st1 ?qs ?_ | refine' st2 ?qs ?_ | refine' st3 ?qs ?_ | refine' st4 ?qs ?_ | refine' st5 ?qs ?_ | refine' st6 ?qs ?_ | refine' st7 ?qs ?_ | refine' st8 ?qs ?_ | refine' st9 ?qs ?_ | refine' st10 ?qs ?_ | refine' st11 ?qs ?_); (case qs => (first | exact setG (giA_ok _ _ _) zSt_ok.size | exact zSet)))
      | (refine s_k 3 rfl ?_; refine s_allocA (t := 182) rfl zStepsV rfl rfl rfl fun blk => ?_)
      | (refine s_k 18 rfl ?_; refine s_val rfl rfl rfl (r_func rfl rfl rfl) ?_)
      | refine s_nil ?_)
        | (refine c_g ?_; first | refine c_seq ?_ | refine c_region ?_ | (refine c_gc ?_; first | refine c_cond1 rfl zTr ?_ | refine c_cond0 rfl zTr ?_ | refine z_condd1 rfl ?_ | refine z_condd0 rfl ?_ | refine z_conddn1 rfl ?_ | refine z_conddn0 rfl ?_ | refine c_condd rfl (fun hc => ?_) (fun hc => ?_) | refine c_conddn rfl (fun hc => ?_) (fun hc => ?_) | refine c_condn rfl (fun hc => ?_) (fun hc => ?_) | refine c_cond rfl (fun hc => ?_) (fun hc => ?_)) | refine c_block ?_ | refine c_skip ?_ | refine c_exit ?_ | refine c_ret ?_)
        | (refine e_g ?_; first | refine e_then ?_ | refine e_blkn ?_ | refine e_thenx ?_ | refine e_thenr ?_ | refine e_blkr ?_ | refine e_blkx ?_ | refine e_blky rfl ?_)
        | (refine y_g ?_; first
      | (refine y_k 8 rfl ?_; first | (refine' y_val rfl rfl rfl (r_ldv rfl rfl ?qm ?qv) ?hp ?_; (case qm => (exact zMm)); (case qv => (exact zLe)); (case hp => exact rfl)) | (refine' y_val rfl rfl rfl (r_ldo rfl rfl ?qw (by simp) ?qv) ?hp ?_; (case qw => assumption); (case qv => (exact zLe)); (case hp => exact rfl)))
      | (refine y_k 13 rfl ?_; (refine y_val rfl rfl rfl (r_neq rfl rfl rfl) ?hp ?_; (case hp => exact rfl)))
      | (refine y_k 35 rfl ?_; first | (refine y_call Try.func135 (by kernel_rfl) rfl rfl rfl rfl rfl rfl (fun w hL => hhc w (hSl.at_ hL)) ?hp ?_; (case hp => exact rfl)) | (refine y_call Try.func133 (by kernel_rfl) rfl rfl rfl rfl rfl rfl (fun w hL => hcc w) ?hp ?_; (case hp => exact rfl)) | (refine y_call Try.func136 (by kernel_rfl) rfl rfl rfl rfl rfl rfl (fun w hL => hput w (hSl.at_ hL)) ?hp ?_; (case hp => exact rfl)) | (refine y_call Try.func137 (by kernel_rfl) rfl rfl rfl rfl rfl rfl (fun w hL => hfar w (hAa.slA (lenSp a) (Kn.old hL hga (by simp)))) ?hp ?_; (case hp => exact rfl)) | (refine y_call Try.func138 (by kernel_rfl) rfl rfl rfl rfl rfl rfl (fun w hL => hasSpF_any b (some ⟨gb, 0, none⟩) capb 139 _ [_] (fun c => decide (0 ≤ D (ci c) - 1)) w (hAb.slA (lenSp b) (Kn.old hL hgb (by simp))) hmb Try.func139 (by kernel_rfl) rfl (fun c hc w' hb' => parClo_any D _ _ _ c.x c.y w' hT hD (block_below0 (hL.at_ m0) hb') ⟨(hrb c hc).1, (hrb c hc).2.1⟩ (hrb c hc).2.2)) ?hp ?_; (case hp => exact rfl)) | (refine' y_rd Try.func134 (by kernel_rfl) rfl rfl rfl rfl rfl rfl List.mem_cons_self List.mem_cons_self rfl (fun w hL => hso w hL.toBelow _ (hL.at_ m0)) ?hp ?_; (case hp => exact rfl)) | (refine' y_rd Try.func100 (by kernel_rfl) rfl rfl rfl rfl rfl rfl List.mem_cons_self List.mem_cons_self rfl (fun w hL => fo2v hf0 (hL.at_ m0)) ?hp ?_; (case hp => exact rfl)))
      | (refine y_k 14 rfl ?_; (refine y_val rfl rfl rfl (r_not rfl rfl) ?hp ?_; (case hp => exact rfl)))
      | (refine y_k 18 rfl ?_; (refine y_val rfl rfl rfl (r_func rfl rfl rfl) ?hp ?_; (case hp => exact rfl)))
      | refine y_nil0 ?_
      | refine y_nil ?_
      | (refine' y_k 0 rfl ?_; (refine' y_move rfl rfl rfl rfl rfl ?hp ?_; (case hp => exact rfl)))
      | (refine' y_k 1 rfl ?_; (refine' y_assign rfl rfl rfl rfl rfl ?hp ?_; (case hp => exact rfl))))
        | (refine' c_drawY (id := 1) [(Sum.inl _ : CalmB.Plan), (Sum.inl _ : CalmB.Plan), (Sum.inl _ : CalmB.Plan), (Sum.inr _ : CalmB.Plan), (Sum.inl _ : CalmB.Plan), (Sum.inl _ : CalmB.Plan), (Sum.inl _ : CalmB.Plan), (Sum.inl _ : CalmB.Plan), (Sum.inl _ : CalmB.Plan), (Sum.inr _ : CalmB.Plan), (Sum.inl _ : CalmB.Plan), (Sum.inl _ : CalmB.Plan)] (by kernel_rfl) (by kernel_rfl) ?_)
        | (refine' y_t 76 rfl ?_; refine' y_bsl rfl rfl (fun w => slSS2 _ _ _ _ _ _ w) rfl rfl rfl ?hp (fun g15 => ?_); (case hp => exact rfl))
        | (refine' y_t 108 rfl ?_; refine' y_bsl rfl rfl (fun w => slInt2 _ _ w) rfl rfl rfl ?hp (fun g21 => ?_); (case hp => exact rfl))
        | (refine e_ret2 (by simp) rfl (re_tmp rfl) (re_tmp rfl) fun w hL => ⟨rfl, hL.toBelow⟩))
end Go.Proofs.Ytpifngdmlmfnhaa
