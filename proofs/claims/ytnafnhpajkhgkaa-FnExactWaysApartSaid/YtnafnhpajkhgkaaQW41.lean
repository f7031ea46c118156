import Derived.Test.YtnafnhpajkhgkaaQW22
import Derived.Test.YtnafnhpajkhgkaaQW34
import Derived.Test.YtnafnhpajkhgkaaQW38
import Derived.Test.YtnafnhpajkhgkaaQW39
import Derived.Test.YtnafnhpajkhgkaaQW40
/- The code of two lists of cells that are to be parted: both functions. No condition but lengths. -/
namespace Go.Proofs.Ytnafnhpajkhgkaa.Wk
set_option linter.unusedVariables false
set_option linter.unusedSimpArgs false
open Go Go.RowKit Mem Calm
variable {P : Program} {n : Nat} {O : List Nat} {w0 : World} {l : List (Nat × Value)} {N L : List (Nat × TypeId × Array Value)} {Q : Exit → Act → World → Prop} {ops : Array Oper} {o : Oper} {rest : List Oper} {k d : Nat} {pl : Nat → CalmB.Plan}
/-- the type of a slice that is built -/
def opT : Op → Nat
  | .buildSlice t _ _ => t
  | _ => 0
theorem y_t (t : Nat) (ho : opT o.op = t) (h : Y P ops Q n O w0 pl (o :: rest) k l N L) : Y P ops Q n O w0 pl (o :: rest) k l N L := h
/-- A callee that reads the slice made last and makes one. -/
theorem y_rd1N {f : FuncId} {fn : Func} {xs : Array Operand} {ts : Array TypeId} {vs : List Value} {T T1 : TypeId} {sz m g1 m1 c1 : Nat} {cs1 : Array Value} {cs : List Value} {x1 : Operand} (hf : P.funcs[f]? = some fn) (hname : (fn.name == "runtime.NumGoroutine") = false) (hb : fn.body.isSome = true) (hg : o.guard = none) (hd : o.dst = some d) (hn : Nat.blt d n = true)
    (hop : o.op = .call { callee := .value (.func f), args := xs, argTypes := ts }) (hargs : evs l xs.toList = some vs) (hx1 : x1 ∈ xs.toList) (hv1 : ev l x1 = some (.slice (some ⟨g1, 0, none⟩) m1 c1))
    (hc : ∀ w, Kn O w0 w ((g1, T1, cs1) :: L) → Calls P f vs.toArray w (NewS T sz cs w)) (hlen : cs.length = m * sz) (hmx : m ≤ maxLen) (hp : pl k = .inr (MadeS T sz cs))
    (h : ∀ g m cap cur, Ap sz m cap cur cs → Y P ops Q n O w0 pl rest (k + 1) ((d, .slice (some ⟨g, 0, none⟩) m cap) :: l) ((g, T, cur) :: (g1, T1, cs1) :: N) L) : Y P ops Q n O w0 pl (o :: rest) k l ((g1, T1, cs1) :: N) L := fun a w E hF hL hE => by
  unfold CalmB.wpLex
  rw [if_pos (by simp [Region.wanted, hg])]
  unfold CalmB.pOp
  rw [hp]
  refine ⟨fun N0 => ⟨.slice (some ⟨N0, 0, none⟩) m m, N0, (T, cs.toArray), Nat.le_refl _, m, m, rfl, ⟨hlen, Nat.le_refl _, hmx, by simp [hlen], by simp [← hlen]⟩, rfl⟩, ⟨[(g1, T1, cs1)], fun r hr => ?_, fun w' hb' hR => ?_⟩, fun u g x hM hB he => ?_⟩
  · have e : r = (g1, T1, cs1) := by simpa using hr
    subst e
    exact ⟨ment_arg hop hF hx1 hv1, hE.2 _ List.mem_cons_self⟩
  · show CalmB.mkAt P o a w' _
    obtain ⟨hB1, hH1⟩ := hR _ List.mem_cons_self
    have hK1 : Kn O w0 w' ((g1, T1, cs1) :: L) := Kn.add (Own.ext hL hb') (Nat.le_trans hL.size hB1) (fun y hy => by
      have := (Array.getElem?_eq_some_iff.1 (hL.has y hy)).1
      have hB' : w.heap.size ≤ g1 := hB1
      omega) hH1
    unfold CalmB.mkAt
    rw [run_callc (caps := []) hf hname hb hop rfl (hF.evals hargs) w']
    refine ⟨rfl, ?_⟩
    rw [List.append_nil]
    exact (hc w' hK1).mono fun e w'' ⟨g, m, cap, cur, he, hA, hge, hat, hb⟩ => ⟨_, g, (T, cur), ⟨m, cap, rfl, hA, rfl⟩, he, hge, hat, hb⟩
  · obtain ⟨m', cap, rfl, hA, hT⟩ := hM
    obtain ⟨T', cur⟩ := x
    simp only at hT hA
    subst hT
    rw [hd]
    refine h g m' cap cur hA _ w _ (hF.put hn _) hL ⟨?_, fun b hb => ?_⟩
    · rw [List.map_cons, List.nodup_cons]
      refine ⟨fun hb => ?_, hE.1⟩
      obtain ⟨b, hb, e⟩ := List.mem_map.1 hb
      have := hE.2 b hb; rw [e, he] at this; cases this
    · rcases List.mem_cons.1 hb with rfl | hb
      · exact Calm.upd_same _ _ _
      · rw [Calm.upd_ne _ _ (fun e => by have := hE.2 b hb; rw [e, he] at this; cases this)]; exact hE.2 b hb
end Go.Proofs.Ytnafnhpajkhgkaa.Wk
namespace Go.Proofs.Ytnafnhpajkhgkaa
set_option linter.unusedVariables false
set_option linter.unusedSimpArgs false
open Go.RowKit Mem Wk
attribute [local irreducible] Calls Wk.S Wk.C Wk.E Wk.X Wk.T Wk.Y Wk.anV Wk.orV Wk.andV Wk.shlV Wk.shrV Calm.wpLex CalmB.wpLex bfsN bfs
theorem slSS2 (a b : Option Addr) (m n c d : Nat) (w : World) : (Instr.buildSlice 41 2 #[(0, .slice a m c), (1, .slice b n d)]).run Try.prog w = .ok (.slice (some ⟨w.heap.size, 0, none⟩) 2 2) (w.alloc (.cells #[.slice a m c, .slice b n d] 36 (0, 0))) := by kernel_rfl
theorem SSs.two {w : World} {a b : List Sp} {va vb : Value} (h1 : Sl w 2 va (a.map Sp.cells)) (h2 : Sl w 2 vb (b.map Sp.cells)) : SSs w [a, b] [va, vb] #[va, vb] := by
  refine ⟨rfl, fun j v hv => ?_, fun j s v hs hv => ?_⟩
  · match j, hv with
    | 0, hv => simpa using hv
    | 1, hv => simpa using hv
  · match j, hs, hv with
    | 0, hs, hv =>
      simp at hs hv; subst hs; subst hv; exact h1
    | 1, hs, hv =>
      simp at hs hv; subst hs; subst hv; exact h2
/-- the code -/
def ptC (p : Nat → Int) (a b : List Sp) : Int := fstC [cellC p (a ++ b), if decide (((cmnL a b).length : Int) = 0) = true then 0 else 4]
theorem slI2p (a b : Int) (w : World) : (Instr.buildSlice 142 2 #[(0, .int .i64 a), (1, .int .i64 b)]).run Try.prog w = .ok (.slice (some ⟨w.heap.size, 0, none⟩) 2 2) (w.alloc (.cells #[.int .i64 a, .int .i64 b] 2 (0, 0))) := by kernel_rfl
set_option maxRecDepth 100000 in
set_option maxHeartbeats 1600000 in
theorem partCode_any (p : Nat → Int) (cs : Array Value) (a b : List Sp) (ga na capa gb nb capb : Nat) (Ta Tb : TypeId) (cura curb : Array Value) (w : World) (hp : Pv p cs) (hAa : Ap 2 na capa cura (flS a)) (hga : w.heap[ga]? = some (.cells cura Ta (0, 0))) (hAb : Ap 2 nb capb curb (flS b)) (hgb : w.heap[gb]? = some (.cells curb Tb (0, 0))) (hna : a.length + b.length ≤ 1048576) (hoa : ∀ c ∈ a, c.ok) (hob : ∀ c ∈ b, c.ok) :
    Calls Try.prog 39 #[.agg cs, .slice (some ⟨ga, 0, none⟩) a.length capa, .slice (some ⟨gb, 0, none⟩) b.length capb] w fun e w' => e = .returned (.int .i64 (ptC p a b)) ∧ Below w.heap.size w w' := by
  have hsz := hp.size
  obtain rfl := hAa.cnt
  obtain rfl := hAb.cnt
  have hUa := hAa.toSl (lenSp a) (by omega) hga
  have hUb := hAb.toSl (lenSp b) (by omega) hgb
  have hoab : ∀ c ∈ a ++ b, c.ok := fun c hc => (List.mem_append.1 hc).elim (hoa c) (hob c)
  have hfl : [a, b].flatten = a ++ b := by simp
  have hlen : (a ++ b).length ≤ 1048576 := by simp; omega
  have hmx : (a ++ b).length ≤ maxLen := by unfold maxLen; omega
  have hf0 : fstC [cellC p (a ++ b), if decide (((cmnL a b).length : Int) = 0) = true then 0 else 4] = ptC p a b := rfl
  have hmc : (cmnL a b).length ≤ maxLen := by have : (cmnL a b).length ≤ a.length := List.length_filter_le _ _; unfold maxLen; omega
  have hcm := fun w hga hgb => common_any a b ga gb a.length b.length capa capb cura curb Ta Tb w hAa hga hAb hgb (by omega) (by omega)
  have hfc := flS_len (cmnL a b)
  have hsome := fun (h0 : 0 < (a ++ b).length) (w' : World) (hb' : Below w.heap.size w w') g hg => by
    have q := concat_some [a, b] [_, _] g 2 _ 36 w' hg (SSs.two (hUa.below hb') (hUb.below hb')) (by rw [hfl]; omega) (by simp) (by rw [hfl]; exact h0)
    rw [hfl] at q
    exact q
  have hnone := fun (h0 : (a ++ b).length = 0) (w' : World) (hb' : Below w.heap.size w w') g hg => concat_none [a, b] [_, _] g 2 _ 36 w' hg (SSs.two (hUa.below hb') (hUb.below hb')) (by simp) (by rw [hfl]; exact h0)
  by_cases hz : 0 < (a ++ b).length
  case pos =>
    have hcc : ∀ w g k cap cur, Ap 2 k cap cur (flS (a ++ b)) → w.heap[g]? = some (.cells cur 52 (0, 0)) → Calls Try.prog 27 #[.agg cs, .slice (some ⟨g, 0, none⟩) k cap] w fun e w' => e = .returned (.int .i64 (cellC p (a ++ b))) ∧ Below w.heap.size w w' := fun w g k cap cur hA hg => cellCode_any p cs _ (a ++ b) w hp (hA.toSl (lenSp (a ++ b)) (by omega) hg) hoab
    have hso := hsome hz
    have hlab := flS_len (a ++ b)
    generalize ptC p a b = c at *
    generalize cellC p (a ++ b) = c1 at *
    generalize cmnL a b = cm at *
    refine enter3 Try.func39 rfl rfl rfl (Own.start w) ?_
    repeat' (first
      | (refine s_g ?_; first
      | (refine s_k 0 rfl ?_; refine s_val rfl rfl rfl (r_move rfl rfl) ?_)
      | (refine s_k 8 rfl ?_; first | (refine' s_val rfl rfl rfl (r_ldv rfl rfl ?qm ?qv) ?_; (case qm => (exact zMm)); (case qv => (exact zLe))) | (refine' s_val rfl rfl rfl (r_ldo rfl rfl ?qw (by simp) ?qv) ?_; (case qw => assumption); (case qv => (exact zLe))))
      | (refine s_k 1 rfl ?_; refine s_val rfl rfl rfl (r_assign rfl rfl) ?_)
      | (refine s_k 13 rfl ?_; refine s_val rfl rfl rfl (r_eql rfl rfl rfl) ?_)
      | (refine s_k 35 rfl ?_; (refine s_call Try.func60 (by kernel_rfl) rfl rfl rfl rfl rfl rfl (fun w hL => to_below (unless0_any _ _ w) rfl) ?_))
      | (refine s_k 4 rfl ?_; first | refine s_boxA rfl rfl rfl rfl rfl fun blk => ?_ | refine s_box1 rfl rfl rfl rfl rfl rfl fun blk => ?_)
      | (refine s_k 36 rfl ?_; refine s_val rfl rfl rfl (r_len tb rfl rfl rfl) ?_)
      | refine s_nil ?_)
      | (refine c_g ?_; first | refine c_seq ?_ | refine c_region ?_ | (refine c_gc ?_; first | refine c_cond1 rfl zTr ?_ | refine c_cond0 rfl zTr ?_ | refine z_condd1 rfl ?_ | refine z_condd0 rfl ?_ | refine z_conddn1 rfl ?_ | refine z_conddn0 rfl ?_ | refine c_condd rfl (fun hc => ?_) (fun hc => ?_) | refine c_conddn rfl (fun hc => ?_) (fun hc => ?_) | refine c_condn rfl (fun hc => ?_) (fun hc => ?_) | refine c_cond rfl (fun hc => ?_) (fun hc => ?_)) | refine c_block ?_ | refine c_skip ?_ | refine c_exit ?_ | refine c_ret ?_)
      | (refine e_g ?_; first | refine e_then ?_ | refine e_blkn ?_ | refine e_thenx ?_ | refine e_thenr ?_ | refine e_blkr ?_ | refine e_blkx ?_ | refine e_blky rfl ?_)
      | (refine y_g ?_; first
      | (refine y_k 8 rfl ?_; first | (refine' y_val rfl rfl rfl (r_ldv rfl rfl ?qm ?qv) ?hp ?_; (case qm => (exact zMm)); (case qv => (exact zLe)); (case hp => exact rfl)) | (refine' y_val rfl rfl rfl (r_ldo rfl rfl ?qw (by simp) ?qv) ?hp ?_; (case qw => assumption); (case qv => (exact zLe)); (case hp => exact rfl)))
      | (refine y_k 13 rfl ?_; (refine y_val rfl rfl rfl (r_eql rfl rfl rfl) ?hp ?_; (case hp => exact rfl)))
      | (refine y_k 35 rfl ?_; first | (refine y_call Try.func60 (by kernel_rfl) rfl rfl rfl rfl rfl rfl (fun w hL => to_below (unless0_any _ _ w) rfl) ?hp ?_; (case hp => exact rfl)) | (refine' y_rd1N Try.func77 (by kernel_rfl) rfl rfl rfl rfl rfl rfl List.mem_cons_self rfl (fun w hL => hso w hL.toBelow _ (hL.at_ m0)) hlab hmx ?hp (fun gc kc capc curc hAc => ?_); (case hp => exact rfl)) | (refine' y_rd Try.func27 (by kernel_rfl) rfl rfl rfl rfl rfl rfl List.mem_cons_self (List.mem_cons_of_mem _ List.mem_cons_self) rfl (fun w hL => hcc w _ _ _ _ hAc (hL.at_ m0)) ?hp ?_; (case hp => exact rfl)) | (refine' y_callN Try.func78 (by kernel_rfl) rfl rfl rfl rfl rfl rfl (fun w hL => hcm w (Kn.old hL hga (by simp)) (Kn.old hL hgb (by simp))) hfc hmc ?hp (fun gm km capm curm hAm => ?_); (case hp => exact rfl); obtain rfl := hAm.cnt) | (refine' y_rd Try.func76 (by kernel_rfl) rfl rfl rfl rfl rfl rfl List.mem_cons_self List.mem_cons_self rfl (fun w hL => fo2v hf0 (hL.at_ m0)) ?hp ?_; (case hp => exact rfl)))
      | (refine y_k 36 rfl ?_; (refine y_val rfl rfl rfl (r_len tb rfl rfl rfl) ?hp ?_; (case hp => exact rfl)))
      | refine y_nil0 ?_
      | refine y_nil ?_
      | (refine' y_k 0 rfl ?_; (refine' y_move rfl rfl rfl rfl rfl ?hp ?_; (case hp => exact rfl)))
      | (refine' y_k 1 rfl ?_; (refine' y_assign rfl rfl rfl rfl rfl ?hp ?_; (case hp => exact rfl))))
      | (refine' c_drawY (id := 1) [(Sum.inl _ : CalmB.Plan), (Sum.inl _ : CalmB.Plan), (Sum.inl _ : CalmB.Plan), (Sum.inr _ : CalmB.Plan), (Sum.inr _ : CalmB.Plan), (Sum.inl _ : CalmB.Plan), (Sum.inl _ : CalmB.Plan), (Sum.inl _ : CalmB.Plan), (Sum.inr _ : CalmB.Plan), (Sum.inl _ : CalmB.Plan), (Sum.inl _ : CalmB.Plan), (Sum.inl _ : CalmB.Plan), (Sum.inr _ : CalmB.Plan), (Sum.inl _ : CalmB.Plan), (Sum.inl _ : CalmB.Plan)] (by kernel_rfl) (by kernel_rfl) ?_)
      | (refine' y_t 41 rfl ?_; refine' y_bsl rfl rfl (fun w => slSS2 _ _ _ _ _ _ w) rfl rfl rfl ?hp (fun g15 => ?_); (case hp => exact rfl))
      | (refine' y_t 142 rfl ?_; refine' y_bsl rfl rfl (fun w => slI2p _ _ w) rfl rfl rfl ?hp (fun g21 => ?_); (case hp => exact rfl))
      | (refine e_ret1 (by simp) rfl (re_tmp rfl) fun w hL => ⟨rfl, hL.toBelow⟩))
  case neg =>
    have hz0 : (a ++ b).length = 0 := by omega
    have hnil : a ++ b = [] := List.length_eq_zero_iff.1 hz0
    have hcc : ∀ w, Calls Try.prog 27 #[.agg cs, .slice none 0 0] w fun e w' => e = .returned (.int .i64 (cellC p (a ++ b))) ∧ Below w.heap.size w w' := fun w => by rw [hnil]; exact cellCode_any p cs _ [] w hp (sl_nil _ _) (by simp)
    have hso := hnone hz0
    generalize ptC p a b = c at *
    generalize cellC p (a ++ b) = c1 at *
    generalize cmnL a b = cm at *
    refine enter3 Try.func39 rfl rfl rfl (Own.start w) ?_
    repeat' (first
      | (refine s_g ?_; first
      | (refine s_k 0 rfl ?_; refine s_val rfl rfl rfl (r_move rfl rfl) ?_)
      | (refine s_k 8 rfl ?_; first | (refine' s_val rfl rfl rfl (r_ldv rfl rfl ?qm ?qv) ?_; (case qm => (exact zMm)); (case qv => (exact zLe))) | (refine' s_val rfl rfl rfl (r_ldo rfl rfl ?qw (by simp) ?qv) ?_; (case qw => assumption); (case qv => (exact zLe))))
      | (refine s_k 1 rfl ?_; refine s_val rfl rfl rfl (r_assign rfl rfl) ?_)
      | (refine s_k 13 rfl ?_; refine s_val rfl rfl rfl (r_eql rfl rfl rfl) ?_)
      | (refine s_k 35 rfl ?_; first | (refine s_call Try.func60 (by kernel_rfl) rfl rfl rfl rfl rfl rfl (fun w hL => to_below (unless0_any _ _ w) rfl) ?_) | (refine s_call Try.func27 (by kernel_rfl) rfl rfl rfl rfl rfl rfl (fun w hL => hcc w) ?_))
      | (refine s_k 4 rfl ?_; first | refine s_boxA rfl rfl rfl rfl rfl fun blk => ?_ | refine s_box1 rfl rfl rfl rfl rfl rfl fun blk => ?_)
      | (refine s_k 36 rfl ?_; refine s_val rfl rfl rfl (r_len tb rfl rfl rfl) ?_)
      | refine s_nil ?_)
      | (refine c_g ?_; first | refine c_seq ?_ | refine c_region ?_ | (refine c_gc ?_; first | refine c_cond1 rfl zTr ?_ | refine c_cond0 rfl zTr ?_ | refine z_condd1 rfl ?_ | refine z_condd0 rfl ?_ | refine z_conddn1 rfl ?_ | refine z_conddn0 rfl ?_ | refine c_condd rfl (fun hc => ?_) (fun hc => ?_) | refine c_conddn rfl (fun hc => ?_) (fun hc => ?_) | refine c_condn rfl (fun hc => ?_) (fun hc => ?_) | refine c_cond rfl (fun hc => ?_) (fun hc => ?_)) | refine c_block ?_ | refine c_skip ?_ | refine c_exit ?_ | refine c_ret ?_)
      | (refine e_g ?_; first | refine e_then ?_ | refine e_blkn ?_ | refine e_thenx ?_ | refine e_thenr ?_ | refine e_blkr ?_ | refine e_blkx ?_ | refine e_blky rfl ?_)
      | (refine y_g ?_; first
      | (refine y_k 8 rfl ?_; first | (refine' y_val rfl rfl rfl (r_ldv rfl rfl ?qm ?qv) ?hp ?_; (case qm => (exact zMm)); (case qv => (exact zLe)); (case hp => exact rfl)) | (refine' y_val rfl rfl rfl (r_ldo rfl rfl ?qw (by simp) ?qv) ?hp ?_; (case qw => assumption); (case qv => (exact zLe)); (case hp => exact rfl)))
      | (refine y_k 13 rfl ?_; (refine y_val rfl rfl rfl (r_eql rfl rfl rfl) ?hp ?_; (case hp => exact rfl)))
      | (refine y_k 35 rfl ?_; first | (refine y_call Try.func60 (by kernel_rfl) rfl rfl rfl rfl rfl rfl (fun w hL => to_below (unless0_any _ _ w) rfl) ?hp ?_; (case hp => exact rfl)) | (refine y_call Try.func27 (by kernel_rfl) rfl rfl rfl rfl rfl rfl (fun w hL => hcc w) ?hp ?_; (case hp => exact rfl)) | (refine' y_rd Try.func77 (by kernel_rfl) rfl rfl rfl rfl rfl rfl List.mem_cons_self List.mem_cons_self rfl (fun w hL => hso w hL.toBelow _ (hL.at_ m0)) ?hp ?_; (case hp => exact rfl)) | (refine' y_callN Try.func78 (by kernel_rfl) rfl rfl rfl rfl rfl rfl (fun w hL => hcm w (Kn.old hL hga (by simp)) (Kn.old hL hgb (by simp))) hfc hmc ?hp (fun gm km capm curm hAm => ?_); (case hp => exact rfl); obtain rfl := hAm.cnt) | (refine' y_rd Try.func76 (by kernel_rfl) rfl rfl rfl rfl rfl rfl List.mem_cons_self List.mem_cons_self rfl (fun w hL => fo2v hf0 (hL.at_ m0)) ?hp ?_; (case hp => exact rfl)))
      | (refine y_k 36 rfl ?_; (refine y_val rfl rfl rfl (r_len tb rfl rfl rfl) ?hp ?_; (case hp => exact rfl)))
      | refine y_nil0 ?_
      | refine y_nil ?_
      | (refine' y_k 0 rfl ?_; (refine' y_move rfl rfl rfl rfl rfl ?hp ?_; (case hp => exact rfl)))
      | (refine' y_k 1 rfl ?_; (refine' y_assign rfl rfl rfl rfl rfl ?hp ?_; (case hp => exact rfl))))
      | (refine' c_drawY (id := 1) [(Sum.inl _ : CalmB.Plan), (Sum.inl _ : CalmB.Plan), (Sum.inl _ : CalmB.Plan), (Sum.inr _ : CalmB.Plan), (Sum.inl _ : CalmB.Plan), (Sum.inl _ : CalmB.Plan), (Sum.inl _ : CalmB.Plan), (Sum.inl _ : CalmB.Plan), (Sum.inr _ : CalmB.Plan), (Sum.inl _ : CalmB.Plan), (Sum.inl _ : CalmB.Plan), (Sum.inl _ : CalmB.Plan), (Sum.inr _ : CalmB.Plan), (Sum.inl _ : CalmB.Plan), (Sum.inl _ : CalmB.Plan)] (by kernel_rfl) (by kernel_rfl) ?_)
      | (refine' y_t 41 rfl ?_; refine' y_bsl rfl rfl (fun w => slSS2 _ _ _ _ _ _ w) rfl rfl rfl ?hp (fun g15 => ?_); (case hp => exact rfl))
      | (refine' y_t 142 rfl ?_; refine' y_bsl rfl rfl (fun w => slI2p _ _ w) rfl rfl rfl ?hp (fun g21 => ?_); (case hp => exact rfl))
      | (refine e_ret1 (by simp) rfl (re_tmp rfl) fun w hL => ⟨rfl, hL.toBelow⟩))
/-! ## The reference's -/
theorem cmn_iff {a b : List Sp} (ha : ∀ c ∈ a, inR c) (hb : ∀ c ∈ b, inR c) : cmnL a b = [] ↔ ∀ c ∈ b, mskF a (ci c) = false := by
  unfold cmnL mskF notIn
  rw [List.filter_eq_nil_iff]
  constructor
  · intro h c hc
    cases hq : a.any fun s => decide (ci s = ci c)
    · rfl
    · obtain ⟨s, hs, e⟩ := List.any_eq_true.1 hq
      have e' := ci_inj (ha s hs) (hb c hc) (of_decide_eq_true e)
      subst e'
      exact absurd (by simpa using ⟨s, hc, by simp [eqSp]⟩) (h s hs)
  · intro h s hs hq
    have hq' : (b.any fun c => eqSp s c) = true := by simpa using hq
    obtain ⟨c, hc, e⟩ := List.any_eq_true.1 hq'
    unfold eqSp at e
    simp only [Bool.and_eq_true, decide_eq_true_eq] at e
    have := h c hc
    have h2 : (a.any fun s => decide (ci s = ci c)) = true := List.any_eq_true.2 ⟨s, hs, by unfold ci; rw [e.1, e.2]; simp⟩
    rw [this] at h2; cases h2
theorem ptC_code {p : Nat → Int} {a b : List Sp} (h : cellC p (a ++ b) ≠ 0) : ptC p a b = cellC p (a ++ b) := by unfold ptC fstC; rw [if_neg h]
theorem ptC_0 {p : Nat → Int} {a b : List Sp} (h : ptC p a b = 0) : cellC p (a ++ b) = 0 ∧ cmnL a b = [] := by
  by_cases h0 : cellC p (a ++ b) = 0
  · refine ⟨h0, ?_⟩
    unfold ptC at h
    rw [h0] at h
    cases hc : cmnL a b with
    | nil => rfl
    | cons x t => rw [hc] at h; simp [fstC] at h; (try omega)
  · rw [ptC_code h0] at h; exact absurd h h0
theorem ptC_yes {p : Nat → Int} {a b : List Sp} (h : cellC p (a ++ b) = 0) (hc : cmnL a b = []) : ptC p a b = 0 := by
  unfold ptC; rw [h, hc]; simp [fstC]
theorem ptC_4 {p : Nat → Int} {a b : List Sp} (h : cellC p (a ++ b) = 0) (hc : cmnL a b ≠ []) : ptC p a b = 4 := by
  unfold ptC; rw [h]
  have : ¬ (((cmnL a b).length : Int) = 0) := fun e => hc (List.length_eq_zero_iff.1 (by omega))
  simp [fstC, this, hc]
set_option maxRecDepth 100000 in
set_option maxHeartbeats 1600000 in
theorem l03Parted_any (p : Nat → Int) (cs : Array Value) (T : TypeId) (gp : Nat) (a b : List Sp) (ga na capa gb nb capb : Nat) (Ta Tb : TypeId) (cura curb : Array Value) (w : World) (hp : Pv p cs) (hg : w.heap[gp]? = some (.cells cs T (0, 0))) (hAa : Ap 2 na capa cura (flS a)) (hga : w.heap[ga]? = some (.cells cura Ta (0, 0))) (hAb : Ap 2 nb capb curb (flS b)) (hgb : w.heap[gb]? = some (.cells curb Tb (0, 0))) (hna : a.length + b.length ≤ 1048576) (hoa : ∀ c ∈ a, c.ok) (hob : ∀ c ∈ b, c.ok) :
    Calls Try.prog 34 #[.pointer (some ⟨gp, 0, none⟩), .slice (some ⟨ga, 0, none⟩) a.length capa, .slice (some ⟨gb, 0, none⟩) b.length capb] w fun e w' => e = .returned (.int .i64 (ptC p a b)) ∧ Below w.heap.size w w' := by
  obtain rfl := hAa.cnt
  obtain rfl := hAb.cnt
  have hls := fun (w : World) hg hga hgb => l03Lists_any p cs T gp a b _ _ w hp hg (hAa.toSl (T := Ta) (g := ga) (lenSp a) (by omega) hga) (hAb.toSl (T := Tb) (g := gb) (lenSp b) (by omega) hgb) (by omega) (by omega) hoa hob
  have hmxb : b.length ≤ maxLen := by unfold maxLen; omega
  by_cases h0 : cellC p (a ++ b) = 0
  · rw [h0] at hls
    obtain ⟨hv, hin⟩ := cellC_0 h0
    have hra : ∀ c ∈ a, inR c := fun c hc => isC_range (hin c (List.mem_append_left _ hc))
    have hrb : ∀ c ∈ b, inR c := fun c hc => isC_range (hin c (List.mem_append_right _ hc))
    have hmk := fun w hga => l01Mask_any a Ta ga capa cura w hAa hga hra
    have hci := cmn_iff hra hrb
    have hy := ptC_yes h0
    have h4 := ptC_4 h0
    have hgm := gbA_ok (mskF a)
    generalize gbA (mskF a) = tab at *
    have hts := hgm.size
    generalize ptC p a b = pc at *
    refine enter3 Try.func34 rfl rfl rfl (Own.start w) ?_
    repeat' (first
      | (refine s_g ?_; first
      | (refine s_k 0 rfl ?_; refine s_val rfl rfl rfl (r_move rfl rfl) ?_)
      | (refine s_k 23 rfl ?_; first | refine s_val rfl rfl rfl (r_field tb rfl rfl rfl) ?_ | refine s_val rfl rfl rfl (r_fieldS tb rfl rfl rfl) ?_)
      | (refine s_k 8 rfl ?_; first | (refine' s_val rfl rfl rfl (r_ldv rfl rfl ?qm ?qv) ?_; (case qm => (exact zMm)); (case qv => (exact zLe))) | (refine' s_val rfl rfl rfl (r_ldo rfl rfl ?qw (by simp) ?qv) ?_; (case qw => assumption); (case qv => (exact zLe))))
      | (refine s_k 1 rfl ?_; refine s_val rfl rfl rfl (r_assign rfl rfl) ?_)
      | (refine s_k 13 rfl ?_; first | refine s_val rfl rfl rfl (r_lss rfl rfl rfl) ?_ | refine s_val rfl rfl rfl (r_neq rfl rfl rfl) ?_ | refine s_val rfl rfl rfl (r_add rfl rfl rfl (wrap_in (by simp only [lo, hi]; omega))) ?_)
      | (refine s_k 35 rfl ?_; first | (refine s_call Try.func71 (by kernel_rfl) rfl rfl rfl rfl rfl rfl (fun w hL => hls w (Kn.old hL hg (by simp)) (Kn.old hL hga (by simp)) (Kn.old hL hgb (by simp))) ?_) | (refine s_call Try.func56 (by kernel_rfl) rfl rfl rfl rfl rfl rfl (fun w hL => hmk w (Kn.old hL hga (by simp))) ?_))
      | (refine s_k 25 rfl ?_; first | refine s_val rfl rfl rfl (r_ixN tb rfl rfl rfl rfl (by omega)) ?_ | refine s_val rfl rfl rfl (r_ixA tb rfl rfl rfl rfl (by omega) (by omega)) ?_ | refine s_val rfl rfl rfl (r_ixO tb rfl rfl rfl rfl (by omega)) ?_)
      | (refine s_k 9 rfl ?_; (first | refine s_st1 tb rfl rfl rfl rfl rfl rfl rfl rfl ?_ | refine s_stA tb rfl rfl rfl rfl (by first | rfl | assumption | (apply Pv.size; assumption)) rfl rfl ?_); (first | refine' st0 ?qs ?_ | refine' st1 ?qs ?_ | refine' st2 ?qs ?_ | refine' st3 ?qs ?_ | refine' st4 ?qs ?_ | refine' st5 ?qs ?_ | refine' st6 ?qs ?_ | refine' st7 ?qs ?_ | refine' st8 ?qs ?_ | refine' st9 ?qs ?_ | refine' st10 ?qs ?_ | refine' st11 ?qs ?_); (case qs => (first | exact setB hgm zFl_ok.size | exact zSet)))
      | (refine s_k 3 rfl ?_; refine s_allocA (t := 90) rfl zF1010 rfl rfl rfl fun blk => ?_)
      | (refine s_k 36 rfl ?_; refine s_val rfl rfl rfl (r_len tb rfl rfl rfl) ?_)
      | refine s_nil ?_)
      | (refine c_g ?_; first | refine c_seq ?_ | refine c_region ?_ | (refine c_gc ?_; first | refine c_cond1 rfl zTr ?_ | refine c_cond0 rfl zTr ?_ | refine z_condd1 rfl ?_ | refine z_condd0 rfl ?_ | refine z_conddn1 rfl ?_ | refine z_conddn0 rfl ?_ | refine c_condd rfl (fun hc => ?_) (fun hc => ?_) | refine c_conddn rfl (fun hc => ?_) (fun hc => ?_) | refine c_condn rfl (fun hc => ?_) (fun hc => ?_) | refine c_cond rfl (fun hc => ?_) (fun hc => ?_)) | refine c_block ?_ | refine c_skip ?_ | refine c_exit ?_ | refine c_ret ?_)
      | (refine e_g ?_; first | refine e_then ?_ | refine e_blkn ?_ | refine e_thenx ?_ | refine e_thenr ?_ | refine e_blkr ?_ | refine e_blkx ?_ | refine e_blky rfl ?_))
    refine c_loop (ι := Nat) (fun i => b.length - i) (fun i => i ≤ b.length ∧ ∀ c ∈ b.take i, mskF a (ci c) = false) (fun i => [(9, .int .i64 (i : Int)), (8, .pointer (some ⟨blk, 0, none⟩)), (2, .slice (some ⟨gb, 0, none⟩) b.length capb)]) (fun i => [(blk, 90, tab)]) 0 ⟨by simp, by simp⟩ ?hs rfl ?_
    case hs => (repeat' (first | exact sub_nil | refine sub_cons rfl ?_))
    rintro i ⟨hle, hno⟩
    by_cases hlt : i < b.length
    · have hx : b[i]? = some b[i] := List.getElem?_eq_getElem hlt
      have hxR := hrb _ (List.getElem_mem hlt)
      have hxe := hAb.cx hx
      have hye := hAb.cy hx
      have hti : b.take (i + 1) = b.take i ++ [b[i]] := by rw [List.take_add_one, hx]; rfl
      have hbm := List.getElem_mem hlt
      generalize b[i] = x at *
      have htx := hgm.at_ (x := x.x.toNat) (y := x.y.toNat) (by have := hxR; unfold inR at this; omega) (by have := hxR; unfold inR at this; omega)
      have hxb : (0 ≤ x.x ∧ x.x < 10) ∧ 0 ≤ x.y ∧ x.y < 10 := ⟨⟨hxR.1, hxR.2.1⟩, hxR.2.2⟩
      have hcx : ci ⟨(x.x.toNat : Int), (x.y.toNat : Int)⟩ = ci x := by congr 1; obtain ⟨x1, x2⟩ := x; simp only at hxb; congr 1 <;> simp only <;> omega
      rw [hcx] at htx
      cases hm : mskF a (ci x)
      · rw [hm] at htx
        repeat' (first
          | (refine s_g ?_; first
      | (refine s_k 0 rfl ?_; refine s_val rfl rfl rfl (r_move rfl rfl) ?_)
      | (refine s_k 23 rfl ?_; first | refine s_val rfl rfl rfl (r_field tb rfl rfl rfl) ?_ | refine s_val rfl rfl rfl (r_fieldS tb rfl rfl rfl) ?_)
      | (refine s_k 8 rfl ?_; first | refine s_val rfl rfl rfl (r_ldo rfl rfl hgb (by simp) (ldv1 tb rfl hxe)) ?_ | refine s_val rfl rfl rfl (r_ldo rfl rfl hgb (by simp) (ldv1 tb rfl hye)) ?_ | (refine' s_val rfl rfl rfl (r_ldv rfl rfl ?qm ?qv) ?_; (case qm => (exact zMm)); (case qv => (first | exact ldvL tb rfl rfl | exact ldv1 tb rfl (by assumption) | exact ldv1 tb rfl (htx) | exact zLd))) | (refine' s_val rfl rfl rfl (r_ldo rfl rfl ?qw (by simp) ?qv) ?_; (case qw => assumption); (case qv => (first | exact ldvL tb rfl rfl | exact ldv1 tb rfl (by assumption) | exact ldv1 tb rfl (htx) | exact zLd))))
      | (refine s_k 1 rfl ?_; refine s_val rfl rfl rfl (r_assign rfl rfl) ?_)
      | (refine s_k 13 rfl ?_; first | refine s_val rfl rfl rfl (r_lss rfl rfl rfl) ?_ | refine s_val rfl rfl rfl (r_neq rfl rfl rfl) ?_ | refine s_val rfl rfl rfl (r_add rfl rfl rfl (wrap_in (by simp only [lo, hi]; omega))) ?_)
      | (refine s_k 25 rfl ?_; first | refine s_val rfl rfl rfl (r_ixO tb rfl rfl rfl rfl hlt) ?_ | refine s_val rfl rfl rfl (r_ixN tb rfl rfl rfl rfl (by omega)) ?_ | refine s_val rfl rfl rfl (r_ixA tb rfl rfl rfl rfl (by omega) (by omega)) ?_ | refine s_val rfl rfl rfl (r_ixO tb rfl rfl rfl rfl (by omega)) ?_)
      | (refine s_k 9 rfl ?_; (first | refine s_st1 tb rfl rfl rfl rfl rfl rfl rfl rfl ?_ | refine s_stA tb rfl rfl rfl rfl (by first | rfl | assumption | (apply Pv.size; assumption)) rfl rfl ?_); (first | refine' st0 ?qs ?_ | refine' st1 ?qs ?_ | refine' st2 ?qs ?_ | refine' st3 ?qs ?_ | refine' st4 ?qs ?_ | refine' st5 ?qs ?_ | refine' st6 ?qs ?_ | refine' st7 ?qs ?_ | refine' st8 ?qs ?_ | refine' st9 ?qs ?_ | refine' st10 ?qs ?_ | refine' st11 ?qs ?_); (case qs => (first | exact zSet)))
      | (refine s_k 36 rfl ?_; refine s_val rfl rfl rfl (r_len tb rfl rfl rfl) ?_)
      | refine s_nil ?_)
          | (refine c_g ?_; first | refine c_seq ?_ | refine c_region ?_ | (refine c_gc ?_; first | refine c_cond1 rfl zTr ?_ | refine c_cond0 rfl zTr ?_ | refine z_condd1 rfl ?_ | refine z_condd0 rfl ?_ | refine z_conddn1 rfl ?_ | refine z_conddn0 rfl ?_ | refine c_condd rfl (fun hc => ?_) (fun hc => ?_) | refine c_conddn rfl (fun hc => ?_) (fun hc => ?_) | refine c_condn rfl (fun hc => ?_) (fun hc => ?_) | refine c_cond rfl (fun hc => ?_) (fun hc => ?_)) | refine c_block ?_ | refine c_skip ?_ | refine c_exit ?_ | refine c_ret ?_)
          | (refine e_g ?_; first | refine e_then ?_ | refine e_blkn ?_ | refine e_thenx ?_ | refine e_thenr ?_ | refine e_blkr ?_ | refine e_blkx ?_ | refine e_blky rfl ?_)
          | (refine x_g ?_; first
      | (refine x_k 0 rfl ?_; (refine x_val rfl rfl rfl (r_move rfl rfl) ?hp ?_; (case hp => exact rfl)))
      | (refine x_k 23 rfl ?_; first | (refine x_val rfl rfl rfl (r_field tb rfl rfl rfl) ?hp ?_; (case hp => exact rfl)) | (refine x_val rfl rfl rfl (r_fieldS tb rfl rfl rfl) ?hp ?_; (case hp => exact rfl)))
      | (refine x_k 8 rfl ?_; first | (refine x_val rfl rfl rfl (r_ldo rfl rfl hgb (by simp) (ldv1 tb rfl hxe)) ?hp ?_; (case hp => exact rfl)) | (refine x_val rfl rfl rfl (r_ldo rfl rfl hgb (by simp) (ldv1 tb rfl hye)) ?hp ?_; (case hp => exact rfl)) | (refine' x_val rfl rfl rfl (r_ldv rfl rfl ?qm ?qv) ?hp ?_; (case qm => (exact zMm)); (case qv => (first | exact ldvL tb rfl rfl | exact ldv1 tb rfl (by assumption) | exact ldv1 tb rfl (htx) | exact zLd)); (case hp => exact rfl)) | (refine' x_val rfl rfl rfl (r_ldo rfl rfl ?qw (by simp) ?qv) ?hp ?_; (case qw => assumption); (case qv => (first | exact ldvL tb rfl rfl | exact ldv1 tb rfl (by assumption) | exact ldv1 tb rfl (htx) | exact zLd)); (case hp => exact rfl)))
      | (refine x_k 1 rfl ?_; (refine x_val rfl rfl rfl (r_assign rfl rfl) ?hp ?_; (case hp => exact rfl)))
      | (refine x_k 13 rfl ?_; first | (refine x_val rfl rfl rfl (r_lss rfl rfl rfl) ?hp ?_; (case hp => exact rfl)) | (refine x_val rfl rfl rfl (r_neq rfl rfl rfl) ?hp ?_; (case hp => exact rfl)) | (refine x_val rfl rfl rfl (r_add rfl rfl rfl (wrap_in (by simp only [lo, hi]; omega))) ?hp ?_; (case hp => exact rfl)))
      | (refine x_k 25 rfl ?_; first | (refine x_val rfl rfl rfl (r_ixO tb rfl rfl rfl rfl hlt) ?hp ?_; (case hp => exact rfl)) | (refine x_val rfl rfl rfl (r_ixN tb rfl rfl rfl rfl (by omega)) ?hp ?_; (case hp => exact rfl)) | (refine x_val rfl rfl rfl (r_ixA tb rfl rfl rfl rfl (by omega) (by omega)) ?hp ?_; (case hp => exact rfl)) | (refine x_val rfl rfl rfl (r_ixO tb rfl rfl rfl rfl (by omega)) ?hp ?_; (case hp => exact rfl)))
      | (refine x_k 9 rfl ?_; first | (refine' x_putA0 tb rfl rfl rfl rfl (by first | rfl | assumption | (apply Pv.size; assumption)) ?qs (by first | rfl | assumption | (apply Pv.size; assumption)) rfl rfl ?hp ?_; (case qs => (first | exact zSet)); (case hp => exact rfl)) | (refine' x_putA1 tb rfl rfl rfl rfl (by first | rfl | assumption | (apply Pv.size; assumption)) ?qs (by first | rfl | assumption | (apply Pv.size; assumption)) rfl rfl ?hp ?_; (case qs => (first | exact zSet)); (case hp => exact rfl)) | (refine' x_putA2 tb rfl rfl rfl rfl (by first | rfl | assumption | (apply Pv.size; assumption)) ?qs (by first | rfl | assumption | (apply Pv.size; assumption)) rfl rfl ?hp ?_; (case qs => (first | exact zSet)); (case hp => exact rfl)))
      | (refine x_k 36 rfl ?_; (refine x_val rfl rfl rfl (r_len tb rfl rfl rfl) ?hp ?_; (case hp => exact rfl)))
      | refine x_nil0 ?_
      | refine x_nil ?_)
          | (refine' c_drawX (id := 8) [(Sum.inl _ : Calm.Plan), (Sum.inl _ : Calm.Plan), (Sum.inl _ : Calm.Plan), (Sum.inl _ : Calm.Plan), (Sum.inl _ : Calm.Plan), (Sum.inl _ : Calm.Plan), (Sum.inl _ : Calm.Plan), (Sum.inl _ : Calm.Plan), (Sum.inl _ : Calm.Plan), (Sum.inl _ : Calm.Plan), (Sum.inl _ : Calm.Plan), (Sum.inl _ : Calm.Plan), (Sum.inl _ : Calm.Plan)] (by kernel_rfl) (by kernel_rfl) (by kernel_rfl) ?_)
          | (refine e_round (i + 1) (by omega) ⟨by omega, fun c hc => by rw [hti] at hc; rcases List.mem_append.1 hc with hc | hc; exact hno c hc; rw [List.mem_singleton.1 hc]; exact hm⟩ ?_ rfl; (repeat' (first | exact sub_nil | refine sub_cons rfl ?_))))
      · rw [hm] at htx
        have hne : cmnL a b ≠ [] := fun e => by have := hci.1 e x hbm; rw [hm] at this; cases this
        rw [h4 hne]
        repeat' (first
          | (refine s_g ?_; first
      | (refine s_k 0 rfl ?_; refine s_val rfl rfl rfl (r_move rfl rfl) ?_)
      | (refine s_k 23 rfl ?_; first | refine s_val rfl rfl rfl (r_field tb rfl rfl rfl) ?_ | refine s_val rfl rfl rfl (r_fieldS tb rfl rfl rfl) ?_)
      | (refine s_k 8 rfl ?_; first | refine s_val rfl rfl rfl (r_ldo rfl rfl hgb (by simp) (ldv1 tb rfl hxe)) ?_ | refine s_val rfl rfl rfl (r_ldo rfl rfl hgb (by simp) (ldv1 tb rfl hye)) ?_ | (refine' s_val rfl rfl rfl (r_ldv rfl rfl ?qm ?qv) ?_; (case qm => (exact zMm)); (case qv => (first | exact ldvL tb rfl rfl | exact ldv1 tb rfl (by assumption) | exact ldv1 tb rfl (htx) | exact zLd))) | (refine' s_val rfl rfl rfl (r_ldo rfl rfl ?qw (by simp) ?qv) ?_; (case qw => assumption); (case qv => (first | exact ldvL tb rfl rfl | exact ldv1 tb rfl (by assumption) | exact ldv1 tb rfl (htx) | exact zLd))))
      | (refine s_k 1 rfl ?_; refine s_val rfl rfl rfl (r_assign rfl rfl) ?_)
      | (refine s_k 13 rfl ?_; first | refine s_val rfl rfl rfl (r_lss rfl rfl rfl) ?_ | refine s_val rfl rfl rfl (r_neq rfl rfl rfl) ?_ | refine s_val rfl rfl rfl (r_add rfl rfl rfl (wrap_in (by simp only [lo, hi]; omega))) ?_)
      | (refine s_k 25 rfl ?_; first | refine s_val rfl rfl rfl (r_ixO tb rfl rfl rfl rfl hlt) ?_ | refine s_val rfl rfl rfl (r_ixN tb rfl rfl rfl rfl (by omega)) ?_ | refine s_val rfl rfl rfl (r_ixA tb rfl rfl rfl rfl (by omega) (by omega)) ?_ | refine s_val rfl rfl rfl (r_ixO tb rfl rfl rfl rfl (by omega)) ?_)
      | (refine s_k 9 rfl ?_; (first | refine s_st1 tb rfl rfl rfl rfl rfl rfl rfl rfl ?_ | refine s_stA tb rfl rfl rfl rfl (by first | rfl | assumption | (apply Pv.size; assumption)) rfl rfl ?_); (first | refine' st0 ?qs ?_ | refine' st1 ?qs ?_ | refine' st2 ?qs ?_ | refine' st3 ?qs ?_ | refine' st4 ?qs ?_ | refine' st5 ?qs ?_ | refine' st6 ?qs ?_ | refine' st7 ?qs ?_ | refine' st8 ?qs ?_ | refine' st9 ?qs ?_ | refine' st10 ?qs ?_ | refine' st11 ?qs ?_); (case qs => (first | exact zSet)))
      | (refine s_k 36 rfl ?_; refine s_val rfl rfl rfl (r_len tb rfl rfl rfl) ?_)
      | refine s_nil ?_)
          | (refine c_g ?_; first | refine c_seq ?_ | refine c_region ?_ | (refine c_gc ?_; first | refine c_cond1 rfl zTr ?_ | refine c_cond0 rfl zTr ?_ | refine z_condd1 rfl ?_ | refine z_condd0 rfl ?_ | refine z_conddn1 rfl ?_ | refine z_conddn0 rfl ?_ | refine c_condd rfl (fun hc => ?_) (fun hc => ?_) | refine c_conddn rfl (fun hc => ?_) (fun hc => ?_) | refine c_condn rfl (fun hc => ?_) (fun hc => ?_) | refine c_cond rfl (fun hc => ?_) (fun hc => ?_)) | refine c_block ?_ | refine c_skip ?_ | refine c_exit ?_ | refine c_ret ?_)
          | (refine e_g ?_; first | refine e_then ?_ | refine e_blkn ?_ | refine e_thenx ?_ | refine e_thenr ?_ | refine e_blkr ?_ | refine e_blkx ?_ | refine e_blky rfl ?_)
          | (refine x_g ?_; first
      | (refine x_k 0 rfl ?_; (refine x_val rfl rfl rfl (r_move rfl rfl) ?hp ?_; (case hp => exact rfl)))
      | (refine x_k 23 rfl ?_; first | (refine x_val rfl rfl rfl (r_field tb rfl rfl rfl) ?hp ?_; (case hp => exact rfl)) | (refine x_val rfl rfl rfl (r_fieldS tb rfl rfl rfl) ?hp ?_; (case hp => exact rfl)))
      | (refine x_k 8 rfl ?_; first | (refine x_val rfl rfl rfl (r_ldo rfl rfl hgb (by simp) (ldv1 tb rfl hxe)) ?hp ?_; (case hp => exact rfl)) | (refine x_val rfl rfl rfl (r_ldo rfl rfl hgb (by simp) (ldv1 tb rfl hye)) ?hp ?_; (case hp => exact rfl)) | (refine' x_val rfl rfl rfl (r_ldv rfl rfl ?qm ?qv) ?hp ?_; (case qm => (exact zMm)); (case qv => (first | exact ldvL tb rfl rfl | exact ldv1 tb rfl (by assumption) | exact ldv1 tb rfl (htx) | exact zLd)); (case hp => exact rfl)) | (refine' x_val rfl rfl rfl (r_ldo rfl rfl ?qw (by simp) ?qv) ?hp ?_; (case qw => assumption); (case qv => (first | exact ldvL tb rfl rfl | exact ldv1 tb rfl (by assumption) | exact ldv1 tb rfl (htx) | exact zLd)); (case hp => exact rfl)))
      | (refine x_k 1 rfl ?_; (refine x_val rfl rfl rfl (r_assign rfl rfl) ?hp ?_; (case hp => exact rfl)))
      | (refine x_k 13 rfl ?_; first | (refine x_val rfl rfl rfl (r_lss rfl rfl rfl) ?hp ?_; (case hp => exact rfl)) | (refine x_val rfl rfl rfl (r_neq rfl rfl rfl) ?hp ?_; (case hp => exact rfl)) | (refine x_val rfl rfl rfl (r_add rfl rfl rfl (wrap_in (by simp only [lo, hi]; omega))) ?hp ?_; (case hp => exact rfl)))
      | (refine x_k 25 rfl ?_; first | (refine x_val rfl rfl rfl (r_ixO tb rfl rfl rfl rfl hlt) ?hp ?_; (case hp => exact rfl)) | (refine x_val rfl rfl rfl (r_ixN tb rfl rfl rfl rfl (by omega)) ?hp ?_; (case hp => exact rfl)) | (refine x_val rfl rfl rfl (r_ixA tb rfl rfl rfl rfl (by omega) (by omega)) ?hp ?_; (case hp => exact rfl)) | (refine x_val rfl rfl rfl (r_ixO tb rfl rfl rfl rfl (by omega)) ?hp ?_; (case hp => exact rfl)))
      | (refine x_k 9 rfl ?_; first | (refine' x_putA0 tb rfl rfl rfl rfl (by first | rfl | assumption | (apply Pv.size; assumption)) ?qs (by first | rfl | assumption | (apply Pv.size; assumption)) rfl rfl ?hp ?_; (case qs => (first | exact zSet)); (case hp => exact rfl)) | (refine' x_putA1 tb rfl rfl rfl rfl (by first | rfl | assumption | (apply Pv.size; assumption)) ?qs (by first | rfl | assumption | (apply Pv.size; assumption)) rfl rfl ?hp ?_; (case qs => (first | exact zSet)); (case hp => exact rfl)) | (refine' x_putA2 tb rfl rfl rfl rfl (by first | rfl | assumption | (apply Pv.size; assumption)) ?qs (by first | rfl | assumption | (apply Pv.size; assumption)) rfl rfl ?hp ?_; (case qs => (first | exact zSet)); (case hp => exact rfl)))
      | (refine x_k 36 rfl ?_; (refine x_val rfl rfl rfl (r_len tb rfl rfl rfl) ?hp ?_; (case hp => exact rfl)))
      | refine x_nil0 ?_
      | refine x_nil ?_)
          | (refine' c_drawX (id := 8) [(Sum.inl _ : Calm.Plan), (Sum.inl _ : Calm.Plan), (Sum.inl _ : Calm.Plan), (Sum.inl _ : Calm.Plan), (Sum.inl _ : Calm.Plan), (Sum.inl _ : Calm.Plan), (Sum.inl _ : Calm.Plan), (Sum.inl _ : Calm.Plan), (Sum.inl _ : Calm.Plan), (Sum.inl _ : Calm.Plan), (Sum.inl _ : Calm.Plan), (Sum.inl _ : Calm.Plan), (Sum.inl _ : Calm.Plan)] (by kernel_rfl) (by kernel_rfl) (by kernel_rfl) ?_)
          | (refine e_ret1 (by simp) rfl (re_tmp rfl) fun w hL => ⟨rfl, hL.toBelow⟩))
    · obtain rfl : i = b.length := by omega
      rw [List.take_length] at hno
      rw [hy (hci.2 hno)]
      repeat' (first
        | (refine s_g ?_; first
      | (refine s_k 0 rfl ?_; refine s_val rfl rfl rfl (r_move rfl rfl) ?_)
      | (refine s_k 23 rfl ?_; first | refine s_val rfl rfl rfl (r_field tb rfl rfl rfl) ?_ | refine s_val rfl rfl rfl (r_fieldS tb rfl rfl rfl) ?_)
      | (refine s_k 8 rfl ?_; first | (refine' s_val rfl rfl rfl (r_ldv rfl rfl ?qm ?qv) ?_; (case qm => (exact zMm)); (case qv => (exact zLe))) | (refine' s_val rfl rfl rfl (r_ldo rfl rfl ?qw (by simp) ?qv) ?_; (case qw => assumption); (case qv => (exact zLe))))
      | (refine s_k 1 rfl ?_; refine s_val rfl rfl rfl (r_assign rfl rfl) ?_)
      | (refine s_k 13 rfl ?_; first | refine s_val rfl rfl rfl (r_lss rfl rfl rfl) ?_ | refine s_val rfl rfl rfl (r_neq rfl rfl rfl) ?_ | refine s_val rfl rfl rfl (r_add rfl rfl rfl (wrap_in (by simp only [lo, hi]; omega))) ?_)
      | (refine s_k 25 rfl ?_; first | refine s_val rfl rfl rfl (r_ixN tb rfl rfl rfl rfl (by omega)) ?_ | refine s_val rfl rfl rfl (r_ixA tb rfl rfl rfl rfl (by omega) (by omega)) ?_ | refine s_val rfl rfl rfl (r_ixO tb rfl rfl rfl rfl (by omega)) ?_)
      | (refine s_k 9 rfl ?_; (first | refine s_st1 tb rfl rfl rfl rfl rfl rfl rfl rfl ?_ | refine s_stA tb rfl rfl rfl rfl (by first | rfl | assumption | (apply Pv.size; assumption)) rfl rfl ?_); (first | refine' st0 ?qs ?_ | refine' st1 ?qs ?_ | refine' st2 ?qs ?_ | refine' st3 ?qs ?_ | refine' st4 ?qs ?_ | refine' st5 ?qs ?_ | refine' st6 ?qs ?_ | refine' st7 ?qs ?_ | refine' st8 ?qs ?_ | refine' st9 ?qs ?_ | refine' st10 ?qs ?_ | refine' st11 ?qs ?_); (case qs => (first | exact zSet)))
      | (refine s_k 36 rfl ?_; refine s_val rfl rfl rfl (r_len tb rfl rfl rfl) ?_)
      | refine s_nil ?_)
        | (refine c_g ?_; first | refine c_seq ?_ | refine c_region ?_ | (refine c_gc ?_; first | refine c_cond1 rfl zTr ?_ | refine c_cond0 rfl zTr ?_ | refine z_condd1 rfl ?_ | refine z_condd0 rfl ?_ | refine z_conddn1 rfl ?_ | refine z_conddn0 rfl ?_ | refine c_condd rfl (fun hc => ?_) (fun hc => ?_) | refine c_conddn rfl (fun hc => ?_) (fun hc => ?_) | refine c_condn rfl (fun hc => ?_) (fun hc => ?_) | refine c_cond rfl (fun hc => ?_) (fun hc => ?_)) | refine c_block ?_ | refine c_skip ?_ | refine c_exit ?_ | refine c_ret ?_)
        | (refine e_g ?_; first | refine e_then ?_ | refine e_blkn ?_ | refine e_thenx ?_ | refine e_thenr ?_ | refine e_blkr ?_ | refine e_blkx ?_ | refine e_blky rfl ?_)
        | (refine e_ret1 (by simp) rfl (re_tmp rfl) fun w hL => ⟨rfl, hL.toBelow⟩))
  · rw [ptC_code h0]
    generalize cellC p (a ++ b) = c at *
    refine enter3 Try.func34 rfl rfl rfl (Own.start w) ?_
    repeat' (first
      | (refine s_g ?_; first
      | (refine s_k 0 rfl ?_; refine s_val rfl rfl rfl (r_move rfl rfl) ?_)
      | (refine s_k 23 rfl ?_; first | refine s_val rfl rfl rfl (r_field tb rfl rfl rfl) ?_ | refine s_val rfl rfl rfl (r_fieldS tb rfl rfl rfl) ?_)
      | (refine s_k 8 rfl ?_; first | (refine' s_val rfl rfl rfl (r_ldv rfl rfl ?qm ?qv) ?_; (case qm => (exact zMm)); (case qv => (exact zLe))) | (refine' s_val rfl rfl rfl (r_ldo rfl rfl ?qw (by simp) ?qv) ?_; (case qw => assumption); (case qv => (exact zLe))))
      | (refine s_k 1 rfl ?_; refine s_val rfl rfl rfl (r_assign rfl rfl) ?_)
      | (refine s_k 13 rfl ?_; first | refine s_val rfl rfl rfl (r_lss rfl rfl rfl) ?_ | refine s_val rfl rfl rfl (r_neq rfl rfl rfl) ?_ | refine s_val rfl rfl rfl (r_add rfl rfl rfl (wrap_in (by simp only [lo, hi]; omega))) ?_)
      | (refine s_k 35 rfl ?_; (refine s_call Try.func71 (by kernel_rfl) rfl rfl rfl rfl rfl rfl (fun w hL => hls w (Kn.old hL hg (by simp)) (Kn.old hL hga (by simp)) (Kn.old hL hgb (by simp))) ?_))
      | (refine s_k 25 rfl ?_; first | refine s_val rfl rfl rfl (r_ixN tb rfl rfl rfl rfl (by omega)) ?_ | refine s_val rfl rfl rfl (r_ixA tb rfl rfl rfl rfl (by omega) (by omega)) ?_ | refine s_val rfl rfl rfl (r_ixO tb rfl rfl rfl rfl (by omega)) ?_)
      | (refine s_k 9 rfl ?_; (first | refine s_st1 tb rfl rfl rfl rfl rfl rfl rfl rfl ?_ | refine s_stA tb rfl rfl rfl rfl (by first | rfl | assumption | (apply Pv.size; assumption)) rfl rfl ?_); (first | refine' st0 ?qs ?_ | refine' st1 ?qs ?_ | refine' st2 ?qs ?_ | refine' st3 ?qs ?_ | refine' st4 ?qs ?_ | refine' st5 ?qs ?_ | refine' st6 ?qs ?_ | refine' st7 ?qs ?_ | refine' st8 ?qs ?_ | refine' st9 ?qs ?_ | refine' st10 ?qs ?_ | refine' st11 ?qs ?_); (case qs => (first | exact zSet)))
      | (refine s_k 36 rfl ?_; refine s_val rfl rfl rfl (r_len tb rfl rfl rfl) ?_)
      | refine s_nil ?_)
      | (refine c_g ?_; first | refine c_seq ?_ | refine c_region ?_ | (refine c_gc ?_; first | refine c_cond1 rfl zTr ?_ | refine c_cond0 rfl zTr ?_ | refine z_condd1 rfl ?_ | refine z_condd0 rfl ?_ | refine z_conddn1 rfl ?_ | refine z_conddn0 rfl ?_ | refine c_condd rfl (fun hc => ?_) (fun hc => ?_) | refine c_conddn rfl (fun hc => ?_) (fun hc => ?_) | refine c_condn rfl (fun hc => ?_) (fun hc => ?_) | refine c_cond rfl (fun hc => ?_) (fun hc => ?_)) | refine c_block ?_ | refine c_skip ?_ | refine c_exit ?_ | refine c_ret ?_)
      | (refine e_g ?_; first | refine e_then ?_ | refine e_blkn ?_ | refine e_thenx ?_ | refine e_thenr ?_ | refine e_blkr ?_ | refine e_blkx ?_ | refine e_blky rfl ?_)
      | (refine e_ret1 (by simp) rfl (re_tmp rfl) fun w hL => ⟨rfl, hL.toBelow⟩))
end Go.Proofs.Ytnafnhpajkhgkaa
