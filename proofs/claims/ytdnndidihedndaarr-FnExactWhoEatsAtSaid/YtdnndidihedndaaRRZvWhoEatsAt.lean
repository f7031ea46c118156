/- WhoEatsAt: the program's and the reference's return the same, for all arguments: no condition. -/
import Derived.Test.YtdnndidihedndaaRRQv15
import Derived.Test.YtdnndidihedndaaRRQv38
import Derived.Test.YtdnndidihedndaaRRQv39
namespace Go.Proofs.YtdnndidihedndaaRR.Wk
set_option linter.unusedVariables false
set_option linter.unusedSimpArgs false
open Go Go.RowKit Mem Calm
variable {P : Program} {n : Nat} {O : List Nat} {w0 : World} {l : List (Nat × Value)} {N L : List (Nat × TypeId × Array Value)} {Q : Exit → Act → World → Prop} {ops : Array Oper} {o : Oper} {rest : List Oper} {k d : Nat} {pl : Nat → CalmB.Plan}
/-- A callee that reads the slice made last and makes one, with a code. -/
theorem y_rd1N2 {f : FuncId} {fn : Func} {xs : Array Operand} {ts : Array TypeId} {vs : List Value} {T T1 : TypeId} {sz m g1 m1 c1 : Nat} {cs1 : Array Value} {cs : List Value} {c : Int} {x1 : Operand} (hf : P.funcs[f]? = some fn) (hname : (fn.name == "runtime.NumGoroutine") = false) (hb : fn.body.isSome = true) (hg : o.guard = none) (hd : o.dst = some d) (hn : Nat.blt d n = true)
    (hop : o.op = .call { callee := .value (.func f), args := xs, argTypes := ts }) (hargs : evs l xs.toList = some vs) (hx1 : x1 ∈ xs.toList) (hv1 : ev l x1 = some (.slice (some ⟨g1, 0, none⟩) m1 c1))
    (hc : ∀ w, Kn O w0 w ((g1, T1, cs1) :: L) → Calls P f vs.toArray w (NewS2 T sz cs c w)) (hlen : cs.length = m * sz) (hmx : m ≤ maxLen) (hp : pl k = .inr (MadeS2 T sz cs c))
    (h : ∀ g m cap cur, Ap sz m cap cur cs → Y P ops Q n O w0 pl rest (k + 1) ((d, .tuple #[.slice (some ⟨g, 0, none⟩) m cap, .int .i64 c]) :: l) ((g, T, cur) :: (g1, T1, cs1) :: N) L) : Y P ops Q n O w0 pl (o :: rest) k l ((g1, T1, cs1) :: N) L := fun a w E hF hL hE => by
  unfold CalmB.wpLex
  rw [if_pos (by simp [Region.wanted, hg])]
  unfold CalmB.pOp
  rw [hp]
  refine ⟨fun N0 => ⟨.tuple #[.slice (some ⟨N0, 0, none⟩) m m, .int .i64 c], N0, (T, cs.toArray), Nat.le_refl _, m, m, rfl, ⟨hlen, Nat.le_refl _, hmx, by simp [hlen], by simp [← hlen]⟩, rfl⟩, ⟨[(g1, T1, cs1)], fun r hr => ?_, fun w' hb' hR => ?_⟩, fun u g x hM hB he => ?_⟩
  · have e : r = (g1, T1, cs1) := by simpa using hr
    subst e
    exact ⟨ment_arg hop hF hx1 hv1, hE.2 _ List.mem_cons_self⟩
  · show CalmB.mkAt P o a w' _
    obtain ⟨hB1, hH1⟩ := hR _ List.mem_cons_self
    have hK1 : Kn O w0 w' ((g1, T1, cs1) :: L) := Kn.add (Own.ext hL hb') (Nat.le_trans hL.size hB1) (fun y hy => by
      have := (Array.getElem?_eq_some_iff.1 (hL.has y hy)).1
      have hB' : w.heap.size ≤ g1 := hB1
      omega) hH1
    unfold CalmB.mkAt
    rw [run_callc (caps := []) hf hname hb hop rfl (hF.evals hargs) w']
    refine ⟨rfl, ?_⟩
    rw [List.append_nil]
    exact (hc w' hK1).mono fun e w'' ⟨g, m, cap, cur, he, hA, hge, hat, hb⟩ => ⟨_, g, (T, cur), ⟨m, cap, rfl, hA, rfl⟩, he, hge, hat, hb⟩
  · obtain ⟨m', cap, rfl, hA, hT⟩ := hM
    obtain ⟨T', cur⟩ := x
    simp only at hT hA
    subst hT
    rw [hd]
    refine h g m' cap cur hA _ w _ (hF.put hn _) hL ⟨?_, fun b hb => ?_⟩
    · rw [List.map_cons, List.nodup_cons]
      refine ⟨fun hb => ?_, hE.1⟩
      obtain ⟨b, hb, e⟩ := List.mem_map.1 hb
      have := hE.2 b hb; rw [e, he] at this; cases this
    · rcases List.mem_cons.1 hb with rfl | hb
      · exact Calm.upd_same _ _ _
      · rw [Calm.upd_ne _ _ (fun e => by have := hE.2 b hb; rw [e, he] at this; cases this)]; exact hE.2 b hb
end Go.Proofs.YtdnndidihedndaaRR.Wk
namespace Go.Proofs.YtdnndidihedndaaRR
set_option linter.unusedVariables false
set_option linter.unusedSimpArgs false
open Go.RowKit Mem Wk
attribute [local irreducible] Calls Wk.S Wk.C Wk.E Wk.X Wk.T Wk.Y Calm.wpLex CalmB.wpLex CalmE.wpLex
theorem flG_len : ∀ l : List Gt, (l.map Gt.cells).flatten.length = l.length * 7
  | [] => rfl
  | a :: l => by
    rw [List.map_cons, List.flatten_cons, List.length_append, flG_len l, List.length_cons, show a.cells.length = 7 from rfl]; omega
set_option maxRecDepth 100000 in
set_option maxHeartbeats 4000000 in
theorem FnExactWhoEatsAt_walk (p0 : Nat → Int) (c0 : Array Value) (v1 : Value) (l1 : List Gt) (s2 : Sp) (w : World) (hp0 : Pv p0 c0) (hl1 : Sl w 7 v1 (l1.map Gt.cells)) (ho1 : ∀ s ∈ l1, s.ok) (hs2 : s2.ok) :
    Calls Try.prog 4 #[.agg c0, v1, .agg #[.int .i8 s2.x, .int .i8 s2.y]] w fun e w' => e = .returned (.bool true) ∧ Below w.heap.size w w' := by
  have hsz := hp0.size
  by_cases hn1 : l1.length ≤ 1048576
  case neg =>
    refine enter3 Try.func4 rfl rfl rfl (Own.start w) ?_
    repeat' (first
      | (refine s_g ?_; first
      | (refine s_gd rfl ?_; first | refine s_gd1 rfl rfl zTr ?_ | refine s_gd0 rfl rfl rfl zTr ?_ | refine s_gd00 rfl rfl zTr ?_ | refine s_gp1 rfl rfl rfl (fun hc => ?_) (fun hc => ?_) | refine s_gp0 rfl rfl rfl (fun hc => ?_) (fun hc => ?_) | refine s_gnp1 rfl rfl rfl (fun hc => ?_) (fun hc => ?_) | refine s_gnp0 rfl rfl rfl (fun hc => ?_) (fun hc => ?_) | refine s_gb1 rfl rfl rfl (fun hc => ?_) (fun hc => ?_) | refine s_gb0 rfl rfl rfl (fun hc => ?_) (fun hc => ?_) | refine s_gnb1 rfl rfl rfl (fun hc => ?_) (fun hc => ?_) | refine s_gnb0 rfl rfl rfl (fun hc => ?_) (fun hc => ?_))
      | (refine s_k 0 rfl ?_; refine s_val rfl rfl rfl (r_move rfl rfl) ?_)
      | (refine s_k 8 rfl ?_; first | (refine' s_val rfl rfl rfl (r_ldv rfl rfl ?qm ?qv) ?_; (case qm => (exact zMm)); (case qv => (exact zLe))) | (refine' s_val rfl rfl rfl (r_ldo rfl rfl ?qw (by simp) ?qv) ?_; (case qw => assumption); (case qv => (exact zLe))))
      | (refine s_k 1 rfl ?_; refine s_val rfl rfl rfl (r_assign rfl rfl) ?_)
      | (refine s_k 13 rfl ?_; first | refine s_val rfl rfl rfl (r_lss rfl rfl rfl) ?_ | refine s_val rfl rfl rfl (r_neq rfl rfl rfl) ?_)
      | (refine s_k 35 rfl ?_; (refine s_call Try.func29 (by kernel_rfl) rfl rfl rfl rfl rfl rfl (fun w hL => sz_gt (szGoatS_any v1 l1 1048576 _ (hl1.below hL.toBelow) (by decide) (by decide)) hn1) ?_))
      | (refine s_k 14 rfl ?_; refine s_val rfl rfl rfl (r_not rfl rfl) ?_)
      | (refine s_k 2 rfl ?_; first | refine s_val rfl rfl rfl (r_pick1 rfl rfl zTr rfl) ?_ | refine s_val rfl rfl rfl (r_pick0 rfl rfl zTr rfl) ?_)
      | (refine s_k 4 rfl ?_; first | refine s_boxA rfl rfl rfl rfl rfl fun blk => ?_ | refine s_box1 rfl rfl rfl rfl rfl rfl fun blk => ?_)
      | (refine s_k 34 rfl ?_; refine s_val rfl rfl rfl (r_extractL rfl rfl rfl) ?_)
      | refine s_nil ?_)
      | (refine c_g ?_; first | refine c_seq ?_ | refine c_region ?_ | (refine c_gc ?_; first | refine c_cond1 rfl zTr ?_ | refine c_cond0 rfl zTr ?_ | refine z_condd1 rfl ?_ | refine z_condd0 rfl ?_ | refine z_conddn1 rfl ?_ | refine z_conddn0 rfl ?_ | refine c_condd rfl (fun hc => ?_) (fun hc => ?_) | refine c_conddn rfl (fun hc => ?_) (fun hc => ?_) | refine c_condn rfl (fun hc => ?_) (fun hc => ?_) | refine c_cond rfl (fun hc => ?_) (fun hc => ?_)) | refine c_block ?_ | refine c_skip ?_ | refine c_exit ?_ | refine c_ret ?_)
      | (refine e_g ?_; first | refine e_then ?_ | refine e_blkn ?_ | refine e_thenx ?_ | refine e_thenr ?_ | refine e_blkr ?_ | refine e_blkx ?_ | refine e_blky rfl ?_)
      | (refine e_ret1 (by simp) rfl (re_tmp rfl) fun w hL => ⟨rfl, hL.toBelow⟩))
  case pos =>
  obtain ⟨A1, cap1, rfl, _, _, hS1⟩ := hl1.open
  rw [List.length_map] at hl1 ⊢
  have h01 : ((1 : Nat) : Int) = 1 := rfl
  have hlG := flG_len l1
  have hmG : l1.length ≤ maxLen := by unfold maxLen; omega
  by_cases h0 : whoC p0 l1 s2 = 0
  case pos =>
    have hspec := fun w g n cap cur hA hg => specWho_ok p0 c0 l1 s2 g n cap cur w hp0 ho1 hs2 h0 hA hg
    have himpl := fun w g n cap cur hA hg => implWho_ok p0 c0 l1 s2 g n cap cur w hp0 ho1 hs2 h0 hA hg
    have hnE : (whoL p0 s2 l1 l1.length).length ≤ 1048576 := Nat.le_trans (whoL_len _ _ _ _) hn1
    generalize whoL p0 s2 l1 l1.length = E at *
    have hlE : (E.map (Value.int .i64)).length = E.length * 1 := by simp
    have hmE : E.length ≤ maxLen := by unfold maxLen; omega
    refine enter3 Try.func4 rfl rfl rfl (Own.start w) ?_
    repeat' (first
      | (refine s_g ?_; first
      | (refine s_gd rfl ?_; first | refine s_gd1 rfl rfl zTr ?_ | refine s_gd0 rfl rfl rfl zTr ?_ | refine s_gd00 rfl rfl zTr ?_ | refine s_gp1 rfl rfl rfl (fun hc => ?_) (fun hc => ?_) | refine s_gp0 rfl rfl rfl (fun hc => ?_) (fun hc => ?_) | refine s_gnp1 rfl rfl rfl (fun hc => ?_) (fun hc => ?_) | refine s_gnp0 rfl rfl rfl (fun hc => ?_) (fun hc => ?_) | refine s_gb1 rfl rfl rfl (fun hc => ?_) (fun hc => ?_) | refine s_gb0 rfl rfl rfl (fun hc => ?_) (fun hc => ?_) | refine s_gnb1 rfl rfl rfl (fun hc => ?_) (fun hc => ?_) | refine s_gnb0 rfl rfl rfl (fun hc => ?_) (fun hc => ?_))
      | (refine s_k 0 rfl ?_; refine s_val rfl rfl rfl (r_move rfl rfl) ?_)
      | (refine s_k 8 rfl ?_; first | (refine' s_val rfl rfl rfl (r_ldv rfl rfl ?qm ?qv) ?_; (case qm => (exact zMm)); (case qv => (exact zLe))) | (refine' s_val rfl rfl rfl (r_ldo rfl rfl ?qw (by simp) ?qv) ?_; (case qw => assumption); (case qv => (exact zLe))))
      | (refine s_k 1 rfl ?_; refine s_val rfl rfl rfl (r_assign rfl rfl) ?_)
      | (refine s_k 13 rfl ?_; first | refine s_val rfl rfl rfl (r_lss rfl rfl rfl) ?_ | refine s_val rfl rfl rfl (r_neq rfl rfl rfl) ?_)
      | (refine s_k 35 rfl ?_; first | (refine s_call Try.func29 (by kernel_rfl) rfl rfl rfl rfl rfl rfl (fun w hL => sz_le (szGoatS_any _ l1 1048576 _ (hl1.below hL.toBelow) (by decide) (by decide)) hn1) ?_) | (refine s_call Try.func25 (by kernel_rfl) rfl rfl rfl rfl rfl rfl (fun w hL => toPasture_any p0 c0 _ hp0) ?_) | (refine s_call Try.func32 (by kernel_rfl) rfl rfl rfl rfl rfl rfl (fun w hL => toSpot_any _ _ _) ?_) | (refine s_call Try.func35 (by kernel_rfl) rfl rfl rfl rfl rfl rfl (fun w hL => eqGoatS_same _ _ l1 _ (hAp.toSl (lenGt l1) (by omega) (hL.at_ m2)) (hAq.toSl (lenGt l1) (by omega) (hL.at_ m0)) hn1) ?_) | (refine s_call Try.func34 (by kernel_rfl) rfl rfl rfl rfl rfl rfl (fun w hL => eqInt64S_same E _ _ _ _ _ _ _ _ _ _ w rfl rfl hIq hIs (hL.at_ m0) (hL.at_ m2) hnE) ?_) | (refine s_call Try.func34 (by kernel_rfl) rfl rfl rfl rfl rfl rfl (fun w hL => eqInt64S_same E _ _ _ _ _ _ _ _ _ _ w rfl rfl hIq hIs (hL.at_ m1) (hL.at_ m3) hnE) ?_) | (refine s_call Try.func34 (by kernel_rfl) rfl rfl rfl rfl rfl rfl (fun w hL => eqInt64S_same E _ _ _ _ _ _ _ _ _ _ w rfl rfl hIq hIs (hL.at_ m0) (hL.at_ m5) hnE) ?_) | (refine s_call Try.func38 (by kernel_rfl) rfl rfl rfl rfl rfl rfl (fun w hL => heldInt64S_z 1 _ h01 _ _ _ _ _ w hpI.2 (hL.at_ m1) hnE (by omega)) ?_) | (refine s_call Try.func38 (by kernel_rfl) rfl rfl rfl rfl rfl rfl (fun w hL => heldInt64S_z 1 _ h01 _ _ _ _ _ w hpI.2 (hL.at_ m3) hnE (by omega)) ?_) | (refine s_callN Try.func31 (by kernel_rfl) rfl rfl rfl rfl rfl rfl (fun w hL => toGoatS_new l1 A1 cap1 w (hS1.at_ hL) hn1) fun g k cap cur hA => ?_; (try have hAp := hAq); have hAq := hA) | (refine s_callM2 Try.func36 (by kernel_rfl) rfl rfl rfl rfl rfl rfl (fun w hL hg => markGoatS_z 1 _ h01 _ _ _ _ w hAp.fit hg (by have e := hAp.count (lenGt l1) (by omega); rw [List.length_map] at e; omega) (by omega)) fun cs hpX => ?_) | (refine s_callM1 Try.func37 (by kernel_rfl) rfl rfl rfl rfl rfl rfl (fun w hL hg => markInt64S_z 1 _ h01 _ _ _ _ w hIf hg hnE (by omega)) fun cs hpI => ?_))
      | (refine s_k 14 rfl ?_; refine s_val rfl rfl rfl (r_not rfl rfl) ?_)
      | (refine s_k 2 rfl ?_; first | refine s_val rfl rfl rfl (r_pick1 rfl rfl zTr rfl) ?_ | refine s_val rfl rfl rfl (r_pick0 rfl rfl zTr rfl) ?_)
      | (refine s_k 4 rfl ?_; first | refine s_boxA rfl rfl rfl rfl rfl fun blk => ?_ | refine s_box1 rfl rfl rfl rfl rfl rfl fun blk => ?_)
      | (refine s_k 34 rfl ?_; refine s_val rfl rfl rfl (r_extractL rfl rfl rfl) ?_)
      | refine s_nil ?_)
      | (refine c_g ?_; first | refine c_seq ?_ | refine c_region ?_ | (refine c_gc ?_; first | refine c_cond1 rfl zTr ?_ | refine c_cond0 rfl zTr ?_ | refine z_condd1 rfl ?_ | refine z_condd0 rfl ?_ | refine z_conddn1 rfl ?_ | refine z_conddn0 rfl ?_ | refine c_condd rfl (fun hc => ?_) (fun hc => ?_) | refine c_conddn rfl (fun hc => ?_) (fun hc => ?_) | refine c_condn rfl (fun hc => ?_) (fun hc => ?_) | refine c_cond rfl (fun hc => ?_) (fun hc => ?_)) | refine c_block ?_ | refine c_skip ?_ | refine c_exit ?_ | refine c_ret ?_)
      | (refine e_g ?_; first | refine e_then ?_ | refine e_blkn ?_ | refine e_thenx ?_ | refine e_thenr ?_ | refine e_blkr ?_ | refine e_blkx ?_ | refine e_blky rfl ?_)
      | (refine y_g ?_; first
      | (refine y_gd rfl ?_; first | refine y_gd1 rfl rfl zTr ?_ | (refine y_gd0 rfl rfl rfl zTr ?hp ?_; (case hp => exact rfl)))
      | (refine y_k 8 rfl ?_; first | (refine' y_val rfl rfl rfl (r_ldv rfl rfl ?qm ?qv) ?hp ?_; (case qm => (exact zMm)); (case qv => (exact zLe)); (case hp => exact rfl)) | (refine' y_val rfl rfl rfl (r_ldo rfl rfl ?qw (by simp) ?qv) ?hp ?_; (case qw => assumption); (case qv => (exact zLe)); (case hp => exact rfl)))
      | (refine y_k 13 rfl ?_; first | (refine y_val rfl rfl rfl (r_lss rfl rfl rfl) ?hp ?_; (case hp => exact rfl)) | (refine y_val rfl rfl rfl (r_neq rfl rfl rfl) ?hp ?_; (case hp => exact rfl)))
      | (refine y_k 35 rfl ?_; first | (refine y_call Try.func29 (by kernel_rfl) rfl rfl rfl rfl rfl rfl (fun w hL => sz_le (szGoatS_any _ l1 1048576 _ (hl1.below hL.toBelow) (by decide) (by decide)) hn1) ?hp ?_; (case hp => exact rfl)) | (refine y_call Try.func25 (by kernel_rfl) rfl rfl rfl rfl rfl rfl (fun w hL => toPasture_any p0 c0 _ hp0) ?hp ?_; (case hp => exact rfl)) | (refine y_call Try.func32 (by kernel_rfl) rfl rfl rfl rfl rfl rfl (fun w hL => toSpot_any _ _ _) ?hp ?_; (case hp => exact rfl)) | (refine y_call Try.func35 (by kernel_rfl) rfl rfl rfl rfl rfl rfl (fun w hL => eqGoatS_same _ _ l1 _ (hAp.toSl (lenGt l1) (by omega) (hL.at_ m2)) (hAq.toSl (lenGt l1) (by omega) (hL.at_ m0)) hn1) ?hp ?_; (case hp => exact rfl)) | (refine y_call Try.func34 (by kernel_rfl) rfl rfl rfl rfl rfl rfl (fun w hL => eqInt64S_same E _ _ _ _ _ _ _ _ _ _ w rfl rfl hIq hIs (hL.at_ m0) (hL.at_ m2) hnE) ?hp ?_; (case hp => exact rfl)) | (refine y_call Try.func34 (by kernel_rfl) rfl rfl rfl rfl rfl rfl (fun w hL => eqInt64S_same E _ _ _ _ _ _ _ _ _ _ w rfl rfl hIq hIs (hL.at_ m1) (hL.at_ m3) hnE) ?hp ?_; (case hp => exact rfl)) | (refine y_call Try.func34 (by kernel_rfl) rfl rfl rfl rfl rfl rfl (fun w hL => eqInt64S_same E _ _ _ _ _ _ _ _ _ _ w rfl rfl hIq hIs (hL.at_ m0) (hL.at_ m5) hnE) ?hp ?_; (case hp => exact rfl)) | (refine y_call Try.func38 (by kernel_rfl) rfl rfl rfl rfl rfl rfl (fun w hL => heldInt64S_z 1 _ h01 _ _ _ _ _ w hpI.2 (hL.at_ m1) hnE (by omega)) ?hp ?_; (case hp => exact rfl)) | (refine y_call Try.func38 (by kernel_rfl) rfl rfl rfl rfl rfl rfl (fun w hL => heldInt64S_z 1 _ h01 _ _ _ _ _ w hpI.2 (hL.at_ m3) hnE (by omega)) ?hp ?_; (case hp => exact rfl)) | (refine' y_callN Try.func31 (by kernel_rfl) rfl rfl rfl rfl rfl rfl (fun w hL => toGoatS_new l1 A1 cap1 w (hS1.at_ hL) hn1) hlG hmG ?hp (fun g k cap cur hA => ?_); (case hp => exact rfl); (try have hAp := hAq); have hAq := hA) | (refine' y_rd1N2 Try.func30 (by kernel_rfl) rfl rfl rfl rfl rfl rfl (List.mem_cons_of_mem _ List.mem_cons_self) rfl (fun w hL => hspec w _ _ _ _ hAq (hL.at_ m0)) hlE hmE ?hp (fun ge ni capi ci hI0 => ?_); (case hp => exact rfl); obtain ⟨rfl, hIs⟩ := InI.of_ap hI0) | (refine' y_rd1N2 Try.func33 (by kernel_rfl) rfl rfl rfl rfl rfl rfl (List.mem_cons_of_mem _ List.mem_cons_self) rfl (fun w hL => himpl w _ _ _ _ hAq (hL.at_ m0)) hlE hmE ?hp (fun ge ni capi ci hI0 => ?_); (case hp => exact rfl); obtain ⟨rfl, hIq⟩ := InI.of_ap hI0; have hIf := hI0.fit) | (refine' y_callN2 Try.func33 (by kernel_rfl) rfl rfl rfl rfl rfl rfl (fun w hL => himpl w _ _ _ _ hAq (hL.at_ m0)) hlE hmE ?hp (fun ge ni capi ci hI0 => ?_); (case hp => exact rfl); obtain ⟨rfl, hIq⟩ := InI.of_ap hI0; have hIf := hI0.fit))
      | (refine y_k 14 rfl ?_; (refine y_val rfl rfl rfl (r_not rfl rfl) ?hp ?_; (case hp => exact rfl)))
      | (refine y_k 2 rfl ?_; first | (refine y_val rfl rfl rfl (r_pick1 rfl rfl zTr rfl) ?hp ?_; (case hp => exact rfl)) | (refine y_val rfl rfl rfl (r_pick0 rfl rfl zTr rfl) ?hp ?_; (case hp => exact rfl)))
      | refine y_nil0 ?_
      | refine y_nil ?_
      | (refine' y_k 0 rfl ?_; (refine' y_move rfl rfl rfl rfl rfl ?hp ?_; (case hp => exact rfl)))
      | (refine' y_k 1 rfl ?_; (refine' y_assign rfl rfl rfl rfl rfl ?hp ?_; (case hp => exact rfl)))
      | (refine' y_k 34 rfl ?_; (refine' y_extract rfl rfl rfl rfl rfl rfl ?hp ?_; (case hp => exact rfl))))
      | (refine' c_drawY (id := 5) [(Sum.inl _ : CalmB.Plan), (Sum.inl _ : CalmB.Plan), (Sum.inl _ : CalmB.Plan), (Sum.inr _ : CalmB.Plan), (Sum.inl _ : CalmB.Plan), (Sum.inl _ : CalmB.Plan), (Sum.inr _ : CalmB.Plan), (Sum.inl _ : CalmB.Plan), (Sum.inl _ : CalmB.Plan), (Sum.inl _ : CalmB.Plan), (Sum.inl _ : CalmB.Plan), (Sum.inl _ : CalmB.Plan)] (by kernel_rfl) (by kernel_rfl) ?_)
      | (refine' c_drawY (id := 7) [(Sum.inl _ : CalmB.Plan), (Sum.inl _ : CalmB.Plan), (Sum.inl _ : CalmB.Plan), (Sum.inl _ : CalmB.Plan), (Sum.inl _ : CalmB.Plan), (Sum.inr _ : CalmB.Plan), (Sum.inl _ : CalmB.Plan), (Sum.inl _ : CalmB.Plan), (Sum.inl _ : CalmB.Plan), (Sum.inl _ : CalmB.Plan), (Sum.inl _ : CalmB.Plan)] (by kernel_rfl) (by kernel_rfl) ?_)
      | (refine' c_drawY (id := 24) [(Sum.inl _ : CalmB.Plan), (Sum.inl _ : CalmB.Plan), (Sum.inl _ : CalmB.Plan), (Sum.inr _ : CalmB.Plan), (Sum.inl _ : CalmB.Plan), (Sum.inl _ : CalmB.Plan), (Sum.inr _ : CalmB.Plan), (Sum.inl _ : CalmB.Plan), (Sum.inl _ : CalmB.Plan), (Sum.inl _ : CalmB.Plan), (Sum.inl _ : CalmB.Plan), (Sum.inl _ : CalmB.Plan)] (by kernel_rfl) (by kernel_rfl) ?_)
      | (refine e_ret1 (by simp) rfl (re_tmp rfl) fun w hL => ⟨rfl, hL.toBelow⟩))
  case neg =>
    have hspec := fun w g n cap cur hA hg => specWho_no p0 c0 l1 s2 g n cap cur w hp0 ho1 hs2 h0 hA hg
    have himpl := fun w g n cap cur hA hg => implWho_no p0 c0 l1 s2 g n cap cur w hp0 ho1 hs2 h0 hA hg
    generalize whoC p0 l1 s2 = c at *
    have e1 : c = c := rfl
    have hmE : 0 ≤ maxLen := by omega
    refine enter3 Try.func4 rfl rfl rfl (Own.start w) ?_
    repeat' (first
      | (refine s_g ?_; first
      | (refine s_gd rfl ?_; first | refine s_gd1 rfl rfl zTr ?_ | refine s_gd0 rfl rfl rfl zTr ?_ | refine s_gd00 rfl rfl zTr ?_ | refine s_gp1 rfl rfl rfl (fun hc => ?_) (fun hc => ?_) | refine s_gp0 rfl rfl rfl (fun hc => ?_) (fun hc => ?_) | refine s_gnp1 rfl rfl rfl (fun hc => ?_) (fun hc => ?_) | refine s_gnp0 rfl rfl rfl (fun hc => ?_) (fun hc => ?_) | refine s_gb1 rfl rfl rfl (fun hc => ?_) (fun hc => ?_) | refine s_gb0 rfl rfl rfl (fun hc => ?_) (fun hc => ?_) | refine s_gnb1 rfl rfl rfl (fun hc => ?_) (fun hc => ?_) | refine s_gnb0 rfl rfl rfl (fun hc => ?_) (fun hc => ?_))
      | (refine s_k 0 rfl ?_; refine s_val rfl rfl rfl (r_move rfl rfl) ?_)
      | (refine s_k 8 rfl ?_; first | (refine' s_val rfl rfl rfl (r_ldv rfl rfl ?qm ?qv) ?_; (case qm => (exact zMm)); (case qv => (exact zLe))) | (refine' s_val rfl rfl rfl (r_ldo rfl rfl ?qw (by simp) ?qv) ?_; (case qw => assumption); (case qv => (exact zLe))))
      | (refine s_k 1 rfl ?_; refine s_val rfl rfl rfl (r_assign rfl rfl) ?_)
      | (refine s_k 13 rfl ?_; first | refine s_val rfl rfl rfl (r_lss rfl rfl rfl) ?_ | refine s_val rfl rfl rfl (r_neq rfl rfl rfl) ?_)
      | (refine s_k 35 rfl ?_; first | (refine s_call Try.func29 (by kernel_rfl) rfl rfl rfl rfl rfl rfl (fun w hL => sz_le (szGoatS_any _ l1 1048576 _ (hl1.below hL.toBelow) (by decide) (by decide)) hn1) ?_) | (refine s_call Try.func25 (by kernel_rfl) rfl rfl rfl rfl rfl rfl (fun w hL => toPasture_any p0 c0 _ hp0) ?_) | (refine s_call Try.func32 (by kernel_rfl) rfl rfl rfl rfl rfl rfl (fun w hL => toSpot_any _ _ _) ?_) | (refine s_call Try.func33 (by kernel_rfl) rfl rfl rfl rfl rfl rfl (fun w hL => himpl w _ _ _ _ hAq (hL.at_ m0)) ?_) | (refine s_call Try.func35 (by kernel_rfl) rfl rfl rfl rfl rfl rfl (fun w hL => eqGoatS_same _ _ l1 _ (hAp.toSl (lenGt l1) (by omega) (hL.at_ m1)) (hAq.toSl (lenGt l1) (by omega) (hL.at_ m0)) hn1) ?_) | (refine s_call Try.func34 (by kernel_rfl) rfl rfl rfl rfl rfl rfl (fun w hL => eqInt64S_nil _ _ _ w hni) ?_) | (refine s_call Try.func37 (by kernel_rfl) rfl rfl rfl rfl rfl rfl (fun w hL => (by have q := markInt64S_nil 1 w; rw [h01] at q; exact q)) ?_) | (refine s_call Try.func38 (by kernel_rfl) rfl rfl rfl rfl rfl rfl (fun w hL => (by have q := heldInt64S_nil 1 w; rw [h01] at q; exact q)) ?_) | (refine s_callN Try.func31 (by kernel_rfl) rfl rfl rfl rfl rfl rfl (fun w hL => toGoatS_new l1 A1 cap1 w (hS1.at_ hL) hn1) fun g k cap cur hA => ?_; (try have hAp := hAq); have hAq := hA) | (refine s_callM1 Try.func36 (by kernel_rfl) rfl rfl rfl rfl rfl rfl (fun w hL hg => markGoatS_z 1 _ h01 _ _ _ _ w hAp.fit hg (by have e := hAp.count (lenGt l1) (by omega); rw [List.length_map] at e; omega) (by omega)) fun cs hpX => ?_))
      | (refine s_k 14 rfl ?_; refine s_val rfl rfl rfl (r_not rfl rfl) ?_)
      | (refine s_k 2 rfl ?_; first | refine s_val rfl rfl rfl (r_pick1 rfl rfl zTr rfl) ?_ | refine s_val rfl rfl rfl (r_pick0 rfl rfl zTr rfl) ?_)
      | (refine s_k 4 rfl ?_; first | refine s_boxA rfl rfl rfl rfl rfl fun blk => ?_ | refine s_box1 rfl rfl rfl rfl rfl rfl fun blk => ?_)
      | (refine s_k 34 rfl ?_; refine s_val rfl rfl rfl (r_extractL rfl rfl rfl) ?_)
      | refine s_nil ?_)
      | (refine c_g ?_; first | refine c_seq ?_ | refine c_region ?_ | (refine c_gc ?_; first | refine c_cond1 rfl zTr ?_ | refine c_cond0 rfl zTr ?_ | refine z_condd1 rfl ?_ | refine z_condd0 rfl ?_ | refine z_conddn1 rfl ?_ | refine z_conddn0 rfl ?_ | refine c_condd rfl (fun hc => ?_) (fun hc => ?_) | refine c_conddn rfl (fun hc => ?_) (fun hc => ?_) | refine c_condn rfl (fun hc => ?_) (fun hc => ?_) | refine c_cond rfl (fun hc => ?_) (fun hc => ?_)) | refine c_block ?_ | refine c_skip ?_ | refine c_exit ?_ | refine c_ret ?_)
      | (refine e_g ?_; first | refine e_then ?_ | refine e_blkn ?_ | refine e_thenx ?_ | refine e_thenr ?_ | refine e_blkr ?_ | refine e_blkx ?_ | refine e_blky rfl ?_)
      | (refine x_g ?_; first
      | (refine x_gd rfl ?_; first | refine x_gd1 rfl rfl zTr ?_ | (refine x_gd0 rfl rfl rfl zTr ?hp ?_; (case hp => exact rfl)))
      | (refine x_k 0 rfl ?_; (refine x_val rfl rfl rfl (r_move rfl rfl) ?hp ?_; (case hp => exact rfl)))
      | (refine x_k 8 rfl ?_; first | (refine' x_val rfl rfl rfl (r_ldv rfl rfl ?qm ?qv) ?hp ?_; (case qm => (exact zMm)); (case qv => (exact zLe)); (case hp => exact rfl)) | (refine' x_val rfl rfl rfl (r_ldo rfl rfl ?qw (by simp) ?qv) ?hp ?_; (case qw => assumption); (case qv => (exact zLe)); (case hp => exact rfl)))
      | (refine x_k 1 rfl ?_; (refine x_val rfl rfl rfl (r_assign rfl rfl) ?hp ?_; (case hp => exact rfl)))
      | (refine x_k 13 rfl ?_; first | (refine x_val rfl rfl rfl (r_lss rfl rfl rfl) ?hp ?_; (case hp => exact rfl)) | (refine x_val rfl rfl rfl (r_neq rfl rfl rfl) ?hp ?_; (case hp => exact rfl)))
      | (refine x_k 35 rfl ?_; first | (refine x_call Try.func29 (by kernel_rfl) rfl rfl rfl rfl rfl rfl (fun w hL => sz_le (szGoatS_any _ l1 1048576 _ (hl1.below hL.toBelow) (by decide) (by decide)) hn1) ?hp ?_; (case hp => exact rfl)) | (refine x_call Try.func25 (by kernel_rfl) rfl rfl rfl rfl rfl rfl (fun w hL => toPasture_any p0 c0 _ hp0) ?hp ?_; (case hp => exact rfl)) | (refine x_call Try.func32 (by kernel_rfl) rfl rfl rfl rfl rfl rfl (fun w hL => toSpot_any _ _ _) ?hp ?_; (case hp => exact rfl)) | (refine x_call Try.func33 (by kernel_rfl) rfl rfl rfl rfl rfl rfl (fun w hL => himpl w _ _ _ _ hAq (hL.at_ m0)) ?hp ?_; (case hp => exact rfl)) | (refine x_call Try.func35 (by kernel_rfl) rfl rfl rfl rfl rfl rfl (fun w hL => eqGoatS_same _ _ l1 _ (hAp.toSl (lenGt l1) (by omega) (hL.at_ m1)) (hAq.toSl (lenGt l1) (by omega) (hL.at_ m0)) hn1) ?hp ?_; (case hp => exact rfl)) | (refine x_call Try.func34 (by kernel_rfl) rfl rfl rfl rfl rfl rfl (fun w hL => eqInt64S_nil _ _ _ w hni) ?hp ?_; (case hp => exact rfl)) | (refine x_call Try.func37 (by kernel_rfl) rfl rfl rfl rfl rfl rfl (fun w hL => (by have q := markInt64S_nil 1 w; rw [h01] at q; exact q)) ?hp ?_; (case hp => exact rfl)) | (refine x_call Try.func38 (by kernel_rfl) rfl rfl rfl rfl rfl rfl (fun w hL => (by have q := heldInt64S_nil 1 w; rw [h01] at q; exact q)) ?hp ?_; (case hp => exact rfl)))
      | (refine x_k 14 rfl ?_; (refine x_val rfl rfl rfl (r_not rfl rfl) ?hp ?_; (case hp => exact rfl)))
      | (refine x_k 2 rfl ?_; first | (refine x_val rfl rfl rfl (r_pick1 rfl rfl zTr rfl) ?hp ?_; (case hp => exact rfl)) | (refine x_val rfl rfl rfl (r_pick0 rfl rfl zTr rfl) ?hp ?_; (case hp => exact rfl)))
      | (refine x_k 4 rfl ?_; (refine x_boxA rfl rfl rfl rfl rfl ?hp (fun blk => ?_); (case hp => exact rfl)))
      | (refine x_k 34 rfl ?_; (refine x_val rfl rfl rfl (r_extractL rfl rfl rfl) ?hp ?_; (case hp => exact rfl)))
      | refine x_nil0 ?_
      | refine x_nil ?_)
      | (refine' c_drawX (id := 7) [(Sum.inl _ : Calm.Plan), (Sum.inl _ : Calm.Plan), (Sum.inl _ : Calm.Plan), (Sum.inl _ : Calm.Plan), (Sum.inl _ : Calm.Plan), (Sum.inl _ : Calm.Plan), (Sum.inl _ : Calm.Plan), (Sum.inl _ : Calm.Plan), (Sum.inl _ : Calm.Plan), (Sum.inl _ : Calm.Plan), (Sum.inl _ : Calm.Plan)] (by kernel_rfl) (by kernel_rfl) (by kernel_rfl) ?_)
      | (refine y_g ?_; first
      | (refine y_gd rfl ?_; first | refine y_gd1 rfl rfl zTr ?_ | (refine y_gd0 rfl rfl rfl zTr ?hp ?_; (case hp => exact rfl)))
      | (refine y_k 8 rfl ?_; first | (refine' y_val rfl rfl rfl (r_ldv rfl rfl ?qm ?qv) ?hp ?_; (case qm => (exact zMm)); (case qv => (exact zLe)); (case hp => exact rfl)) | (refine' y_val rfl rfl rfl (r_ldo rfl rfl ?qw (by simp) ?qv) ?hp ?_; (case qw => assumption); (case qv => (exact zLe)); (case hp => exact rfl)))
      | (refine y_k 13 rfl ?_; first | (refine y_val rfl rfl rfl (r_lss rfl rfl rfl) ?hp ?_; (case hp => exact rfl)) | (refine y_val rfl rfl rfl (r_neq rfl rfl rfl) ?hp ?_; (case hp => exact rfl)))
      | (refine y_k 35 rfl ?_; first | (refine y_call Try.func29 (by kernel_rfl) rfl rfl rfl rfl rfl rfl (fun w hL => sz_le (szGoatS_any _ l1 1048576 _ (hl1.below hL.toBelow) (by decide) (by decide)) hn1) ?hp ?_; (case hp => exact rfl)) | (refine y_call Try.func25 (by kernel_rfl) rfl rfl rfl rfl rfl rfl (fun w hL => toPasture_any p0 c0 _ hp0) ?hp ?_; (case hp => exact rfl)) | (refine y_call Try.func32 (by kernel_rfl) rfl rfl rfl rfl rfl rfl (fun w hL => toSpot_any _ _ _) ?hp ?_; (case hp => exact rfl)) | (refine y_call Try.func33 (by kernel_rfl) rfl rfl rfl rfl rfl rfl (fun w hL => himpl w _ _ _ _ hAq (hL.at_ m0)) ?hp ?_; (case hp => exact rfl)) | (refine y_call Try.func35 (by kernel_rfl) rfl rfl rfl rfl rfl rfl (fun w hL => eqGoatS_same _ _ l1 _ (hAp.toSl (lenGt l1) (by omega) (hL.at_ m1)) (hAq.toSl (lenGt l1) (by omega) (hL.at_ m0)) hn1) ?hp ?_; (case hp => exact rfl)) | (refine y_call Try.func34 (by kernel_rfl) rfl rfl rfl rfl rfl rfl (fun w hL => eqInt64S_nil _ _ _ w hni) ?hp ?_; (case hp => exact rfl)) | (refine y_call Try.func37 (by kernel_rfl) rfl rfl rfl rfl rfl rfl (fun w hL => (by have q := markInt64S_nil 1 w; rw [h01] at q; exact q)) ?hp ?_; (case hp => exact rfl)) | (refine y_call Try.func38 (by kernel_rfl) rfl rfl rfl rfl rfl rfl (fun w hL => (by have q := heldInt64S_nil 1 w; rw [h01] at q; exact q)) ?hp ?_; (case hp => exact rfl)) | (refine' y_callN Try.func31 (by kernel_rfl) rfl rfl rfl rfl rfl rfl (fun w hL => toGoatS_new l1 A1 cap1 w (hS1.at_ hL) hn1) hlG hmG ?hp (fun g k cap cur hA => ?_); (case hp => exact rfl); (try have hAp := hAq); have hAq := hA) | (refine' y_rd1N2 (m := 0) Try.func30 (by kernel_rfl) rfl rfl rfl rfl rfl rfl (List.mem_cons_of_mem _ List.mem_cons_self) rfl (fun w hL => hspec w _ _ _ _ hAq (hL.at_ m0)) rfl hmE ?hp (fun ge ni capi ci hI0 => ?_); (case hp => exact rfl); have hni := (InI.of_ap (E := []) hI0).1) | (refine' y_rd Try.func33 (by kernel_rfl) rfl rfl rfl rfl rfl rfl List.mem_cons_self (List.mem_cons_of_mem _ List.mem_cons_self) rfl (fun w hL => himpl w _ _ _ _ hAq (hL.at_ m0)) ?hp ?_; (case hp => exact rfl)))
      | (refine y_k 14 rfl ?_; (refine y_val rfl rfl rfl (r_not rfl rfl) ?hp ?_; (case hp => exact rfl)))
      | (refine y_k 2 rfl ?_; first | (refine y_val rfl rfl rfl (r_pick1 rfl rfl zTr rfl) ?hp ?_; (case hp => exact rfl)) | (refine y_val rfl rfl rfl (r_pick0 rfl rfl zTr rfl) ?hp ?_; (case hp => exact rfl)))
      | refine y_nil0 ?_
      | refine y_nil ?_
      | (refine' y_k 0 rfl ?_; (refine' y_move rfl rfl rfl rfl rfl ?hp ?_; (case hp => exact rfl)))
      | (refine' y_k 1 rfl ?_; (refine' y_assign rfl rfl rfl rfl rfl ?hp ?_; (case hp => exact rfl)))
      | (refine' y_k 34 rfl ?_; (refine' y_extract rfl rfl rfl rfl rfl rfl ?hp ?_; (case hp => exact rfl))))
      | (refine' c_drawY (id := 5) [(Sum.inl _ : CalmB.Plan), (Sum.inl _ : CalmB.Plan), (Sum.inl _ : CalmB.Plan), (Sum.inr _ : CalmB.Plan), (Sum.inl _ : CalmB.Plan), (Sum.inl _ : CalmB.Plan), (Sum.inr _ : CalmB.Plan), (Sum.inl _ : CalmB.Plan), (Sum.inl _ : CalmB.Plan), (Sum.inl _ : CalmB.Plan), (Sum.inl _ : CalmB.Plan), (Sum.inl _ : CalmB.Plan)] (by kernel_rfl) (by kernel_rfl) ?_)
      | (refine' c_drawY (id := 24) [(Sum.inl _ : CalmB.Plan), (Sum.inl _ : CalmB.Plan), (Sum.inl _ : CalmB.Plan), (Sum.inr _ : CalmB.Plan), (Sum.inl _ : CalmB.Plan), (Sum.inl _ : CalmB.Plan), (Sum.inl _ : CalmB.Plan), (Sum.inl _ : CalmB.Plan), (Sum.inl _ : CalmB.Plan), (Sum.inl _ : CalmB.Plan), (Sum.inl _ : CalmB.Plan), (Sum.inl _ : CalmB.Plan)] (by kernel_rfl) (by kernel_rfl) ?_)
      | (refine e_ret1 (by simp) rfl (re_tmp rfl) fun w hL => ⟨rfl, hL.toBelow⟩))
namespace FnExactWhoEatsAtRow
open Go.ChangeShapes Go.WideShapes Go.ChangeAt Go.RowKit
theorem own : ownKnob Try.prog.godebug = none := by kernel_rfl
theorem laidOut : laidOutB Try.prog = true := by kernel_rfl
set_option maxRecDepth 100000 in
set_option maxHeartbeats 1000000 in
theorem lifted (os : Os) (started : os.Started) (H : Type) (enc : TypeId × Value → H) :
    ReturnsInHanded {} Try.checked os 4 .any (Rows.fnExactWhoEatsAtSpec.pre6 enc Try.prog Try.f4 Rows.fnExactWhoEatsAtRow.domain false) (Rows.fnExactWhoEatsAtSpec.post enc Try.prog Try.f4 false true false false) := by
  refine returnsInHanded_of_change (C := Try.checked) own started (by kernel_rfl) Try.func4
    (ChangeSpec.witness6 (enc := enc) (C := Try.checked) false ⟨#[], #[.agg zP, .slice none 0 0, .agg #[.int .i8 0, .int .i8 0]], []⟩ 8 (by kernel_rfl) (by kernel_rfl) (by kernel_rfl) (by kernel_rfl)) ?_
  intro W base args ds gs before hval0 hW hcnd _
  have hval : ∀ (j : Nat) t v, Try.f4.params[j]? = some t → args[j]? = some v → Value.okWide Try.prog W .any base t v := hval0
  have hW' := hW
  obtain ⟨p, q, hA0, hV, rfl, hfz, hnd⟩ := hW
  have hA : DataW.TrodAll enc Try.prog W 0 (fun _ => true) true Try.f4.params.toList args.toList ds p := hA0
  rw [Try.params4] at hA hval
  obtain ⟨v0, vs0, d0, ds0, p0, q0, hargs, rfl, rfl, h0, r0⟩ := trodAll_cons hA
  obtain ⟨v1, vs1, d1, ds1, p1, q1, rfl, rfl, rfl, h1, r1⟩ := trodAll_cons r0
  obtain ⟨v2, vs2, d2, ds2, p2, q2, rfl, rfl, rfl, h2, r2⟩ := trodAll_cons r1
  obtain ⟨rfl, rfl, rfl⟩ := trodAll_nil r2
  obtain rfl : args = #[v0, v1, v2] := by cases args; simp_all
  obtain ⟨rfl, rfl⟩ := trodVars_none hV
  have k0 := h0
  have lt0 : ∀ x ∈ p0, x.block < W.heap.size := by obtain ⟨m, hm⟩ := k0; exact DataW.trod_lt m _ _ _ hm
  have k1 := h1
  have lt1 : ∀ x ∈ p1, x.block < W.heap.size := by obtain ⟨m, hm⟩ := k1; exact DataW.trod_lt m _ _ _ hm
  have k2 := h2
  have lt2 : ∀ x ∈ p2, x.block < W.heap.size := by obtain ⟨m, hm⟩ := k2; exact DataW.trod_lt m _ _ _ hm
  obtain ⟨c0, rfl, hs0, hf0⟩ := open_flat (n := 5) (ks := pasK) (by kernel_rfl) (by kernel_rfl) (by kernel_rfl) (hval 0 _ v0 rfl rfl) h0
  obtain ⟨p0', hp0⟩ := pv_of_flat hs0 hf0
  obtain ⟨xs1, hl1, hf1⟩ := open_flat_slice (n := 5) (ks := gtK) Try.underlying40 (by kernel_rfl) (by kernel_rfl) (by decide) (hval 1 _ v1 rfl rfl) h1
  obtain ⟨l1, rfl, ho1⟩ := list_of_cells (f := Gt.cells) (p := Gt.ok) xs1 (fun c hc => by
    obtain ⟨hcl, _⟩ := sl_elem hl1 c hc
    exact gt_of_flat hcl (hf1 c hc))
  obtain ⟨c2, rfl, hz2, hf2⟩ := open_flat (n := 5) (ks := spK) (by kernel_rfl) (by kernel_rfl) (by kernel_rfl) (hval 2 _ v2 rfl rfl) h2
  obtain ⟨s2, hc2, hs2⟩ := sp_of_flat (cs := c2.toList) (by rw [Array.length_toList]; exact hz2) (fun j k hj => by rw [Array.getElem?_toList]; exact hf2 j k hj)
  obtain rfl : c2 = #[.int .i8 s2.x, .int .i8 s2.y] := by apply Array.ext'; rw [hc2]; rfl
  clear hA0 hval0
  refine (FnExactWhoEatsAt_walk p0' c0 v1 l1 s2 W hp0 hl1 ho1 hs2).mono fun e W' ⟨he, bel⟩ => ?_
  subst he
  exact ⟨_, rfl, _, _, _, [], _, [], hW', trodAll_mk1 (shut_bool Try.underlying4 _), (trodAll_cons_mk (Below.trod laidOut (by kernel_rfl) (of_decide_eq_true (by kernel_rfl)) k0 bel lt0) (trodAll_cons_mk (Below.trod laidOut (by kernel_rfl) (of_decide_eq_true (by kernel_rfl)) k1 bel lt1) (trodAll_cons_mk (Below.trod laidOut (by kernel_rfl) (of_decide_eq_true (by kernel_rfl)) k2 bel lt2) trodAll_mk0))), rfl, bel.frame _, fun h => by cases h⟩
theorem closed : joinedFacts Try.prog 4 Try.f4 Rows.fnExactWhoEatsAtSpec Rows.fnExactWhoEatsAtRow = true := by
  unfold joinedFacts
  rw [prog_mayEnter, prog_lifts, prog_make]
  show (_ : Bool) = true
  kernel_rfl
theorem over : Rows.fnExactWhoEatsAtRow.holds Try.pinned (OpenSpec.ofChange Rows.fnExactWhoEatsAtSpec) :=
  OpenClaim.holds_of_wide 4 Try.f4 rfl rfl rfl rfl rfl rfl rfl ⟨rfl, rfl, rfl, rfl, rfl⟩ rfl rfl rfl rfl rfl (by kernel_rfl) Try.func4 closed
    (of_decide_eq_true (by kernel_rfl)) (by unfold Func.isWrapper; first | (rw [if_pos (by decide +kernel)]; kernel_rfl) | (rw [if_neg (by decide +kernel)]; exact ⟨rfl, rfl⟩))
    (fun os started H enc _ => lifted os started H enc)
end FnExactWhoEatsAtRow
theorem fnExactWhoEatsAt_holds : Rows.FnExactWhoEatsAtSaid := FnExactWhoEatsAtRow.over
#print axioms fnExactWhoEatsAt_holds
end Go.Proofs.YtdnndidihedndaaRR
