import Derived.Test.YtpifngdmlmfnhaaQA28
import Derived.Test.YtpifngdmlmfnhaaQA30
import Derived.Test.YtpifngdmlmfnhaaQA31
/- UncoveredBy, SharedCells: the program's. No condition. -/
namespace Go.Proofs.Ytpifngdmlmfnhaa
set_option linter.unusedVariables false
set_option linter.unusedSimpArgs false
open Go.RowKit Mem Wk
theorem s_callSS {P : Program} {ops : Array Oper} {Q : Exit → Act → World → Prop} {n : Nat} {O : List Nat} {w0 : World} {o : Oper} {rest : List Oper} {l : List (Nat × Value)} {L : List (Nat × TypeId × Array Value)} {f : FuncId} {fn : Func} {xs : Array Operand} {ts : Array TypeId} {vs : List Value} {d : Nat} {S : List (List Sp)} (hf : P.funcs[f]? = some fn) (hname : (fn.name == "runtime.NumGoroutine") = false) (hb : fn.body.isSome = true) (hg : o.guard = none) (hd : o.dst = some d) (hn : Nat.blt d n = true)
    (hop : o.op = .call { callee := .value (.func f), args := xs, argTypes := ts }) (hargs : evs l xs.toList = some vs) (hc : ∀ w, Kn O w0 w L → Calls P f vs.toArray w (NewSS S w)) (h : ∀ g cap cur items, Ap 1 S.length cap cur (itV S items) → ItOk S items → Wk.S P ops Q n O w0 rest ((d, .slice (some ⟨g, 0, none⟩) S.length cap) :: l) ((g, 40, cur) :: (L ++ itR items))) : Wk.S P ops Q n O w0 (o :: rest) l L :=
  s_callR (ι := Nat × Nat × Array Value × List (Nat × Nat × Array Value)) (fun i => Ap 1 S.length i.2.1 i.2.2.1 (itV S i.2.2.2) ∧ ItOk S i.2.2.2) (fun i => .slice (some ⟨i.1, 0, none⟩) S.length i.2.1) (fun i => (i.1, 40, i.2.2.1) :: (L ++ itR i.2.2.2)) hf hname hb hg hd hn hop hargs
    (fun w hL => (hc w hL).mono fun e w' ⟨g, cap, cur, items, he, hA, hI, hN⟩ => ⟨(g, cap, cur, items), ⟨hA, hI⟩, he, Kn.perm (Kn.app hL hN) (List.Perm.cons _ List.perm_append_comm)⟩) (fun ⟨g, cap, cur, items⟩ ⟨hA, hI⟩ => h g cap cur items hA hI)
attribute [local irreducible] Calls Wk.S Wk.C Wk.E Wk.X Wk.T Wk.Y Wk.andV Wk.shrV Calm.wpLex CalmB.wpLex bfsN
set_option maxRecDepth 100000 in
set_option maxHeartbeats 800000 in
theorem rbClo_nil (c : Sp) (acc : Int → Bool) (cf : FuncId) (fn : Func) (g1 g2 : Nat) (T1 T2 : TypeId) (w : World)
    (hg1 : w.heap[g1]? = some (.cells #[.slice none 0 0] T1 (0, 0))) (hg2 : w.heap[g2]? = some (.cells #[.func (.func cf) #[] #[]] T2 (0, 0)))
    (hf : Try.prog.funcs[cf]? = some fn) (hname : (fn.name == "runtime.NumGoroutine") = false) (hb : fn.body.isSome = true) (hacc : ∀ (m : Nat) w', Calls Try.prog cf #[.int .i64 (m : Int)] w' fun e w'' => e = .returned (.bool (acc m)) ∧ Below w'.heap.size w' w'') :
    Calls Try.prog 195 #[.agg #[.int .i8 c.x, .int .i8 c.y], .pointer (some ⟨g1, 0, none⟩), .pointer (some ⟨g2, 0, none⟩)] w fun e w' => e = .returned (.bool (acc 0)) ∧ Below w.heap.size w w' := by
  refine enter3 Try.func195 rfl rfl rfl (Own.start w) ?_
  repeat' (first
    | (refine s_g ?_; first
      | (refine s_k 0 rfl ?_; refine s_val rfl rfl rfl (r_move rfl rfl) ?_)
      | (refine s_k 8 rfl ?_; first | refine s_val rfl rfl rfl (r_ldo rfl rfl hg1 (by simp) (ldv1 tb rfl rfl)) ?_ | (refine' s_val rfl rfl rfl (r_ldv rfl rfl ?qm ?qv) ?_; (case qm => (exact zMm)); (case qv => (exact zLe))) | (refine' s_val rfl rfl rfl (r_ldo rfl rfl ?qw (by simp) ?qv) ?_; (case qw => assumption); (case qv => (exact zLe))))
      | (refine s_k 1 rfl ?_; refine s_val rfl rfl rfl (r_assign rfl rfl) ?_)
      | (refine s_k 13 rfl ?_; first | refine s_val rfl rfl rfl (r_lss rfl rfl rfl) ?_ | refine s_val rfl rfl rfl (r_eql rfl rfl rfl) ?_ | refine s_val rfl rfl rfl (r_add rfl rfl rfl (wrap_in (by simp only [lo, hi]; omega))) ?_)
      | (refine s_k 25 rfl ?_; first | refine s_val rfl rfl rfl (r_ixN tb rfl rfl rfl rfl (by omega)) ?_ | refine s_val rfl rfl rfl (r_ixA tb rfl rfl rfl rfl (by omega) (by omega)) ?_ | refine s_val rfl rfl rfl (r_ixO tb rfl rfl rfl rfl (by omega)) ?_)
      | (refine s_k 4 rfl ?_; first | refine s_boxA rfl rfl rfl rfl rfl fun blk => ?_ | refine s_box1 rfl rfl rfl rfl rfl rfl fun blk => ?_)
      | (refine s_k 9 rfl ?_; (first | refine s_st1 tb rfl rfl rfl rfl rfl rfl rfl rfl ?_ | refine s_stA tb rfl rfl rfl rfl (by first | rfl | assumption | (apply Pv.size; assumption)) rfl rfl ?_); (first | refine' st0 ?qs ?_ | refine' st1 ?qs ?_ | refine' st2 ?qs ?_ | refine' st3 ?qs ?_ | refine' st4 ?qs ?_ | refine' st5 ?qs ?_ | refine' st6 ?qs ?_ | refine' st7 ?qs ?_ | refine' st8 ?qs ?_ | refine' st9 ?qs ?_ | refine' st10 ?qs ?_ | refine' st11 ?qs ?_); (case qs => (first | exact zSet)))
      | (refine s_k 36 rfl ?_; refine s_val rfl rfl rfl (r_len tb rfl rfl rfl) ?_)
      | refine s_nil ?_)
    | (refine c_g ?_; first | refine c_seq ?_ | refine c_region ?_ | (refine c_gc ?_; first | refine c_cond1 rfl zTr ?_ | refine c_cond0 rfl zTr ?_ | refine z_condd1 rfl ?_ | refine z_condd0 rfl ?_ | refine z_conddn1 rfl ?_ | refine z_conddn0 rfl ?_ | refine c_condd rfl (fun hc => ?_) (fun hc => ?_) | refine c_conddn rfl (fun hc => ?_) (fun hc => ?_) | refine c_condn rfl (fun hc => ?_) (fun hc => ?_) | refine c_cond rfl (fun hc => ?_) (fun hc => ?_)) | refine c_block ?_ | refine c_skip ?_ | refine c_exit ?_ | refine c_ret ?_)
    | (refine e_g ?_; first | refine e_then ?_ | refine e_blkn ?_ | refine e_thenx ?_ | refine e_thenr ?_ | refine e_blkr ?_ | refine e_blkx ?_ | refine e_blky rfl ?_))
  refine c_loop (ι := Unit) (fun i => 0) (fun i => True) (fun i => [(10, .int .i64 0), (9, .int .i64 0), (8, .slice none 0 0), (5, .int .i64 ((0 : Nat) : Int)), (3, .pointer (some ⟨blk, 0, none⟩)), (2, .pointer (some ⟨g2, 0, none⟩))]) (fun i => [(blk, 88, #[.int .i8 c.x, .int .i8 c.y])]) () trivial ?hs rfl ?_
  case hs => (repeat' (first | exact sub_nil | refine sub_cons rfl ?_))
  rintro k hk
  repeat' (first
    | (refine s_g ?_; first
      | (refine s_k 0 rfl ?_; refine s_val rfl rfl rfl (r_move rfl rfl) ?_)
      | (refine s_k 8 rfl ?_; first | refine s_val rfl rfl rfl (r_ldo rfl rfl hg2 (by simp) (ldv1 tb rfl rfl)) ?_ | (refine' s_val rfl rfl rfl (r_ldv rfl rfl ?qm ?qv) ?_; (case qm => (exact zMm)); (case qv => (exact zLe))) | (refine' s_val rfl rfl rfl (r_ldo rfl rfl ?qw (by simp) ?qv) ?_; (case qw => assumption); (case qv => (exact zLe))))
      | (refine s_k 1 rfl ?_; refine s_val rfl rfl rfl (r_assign rfl rfl) ?_)
      | (refine s_k 13 rfl ?_; first | refine s_val rfl rfl rfl (r_lss rfl rfl rfl) ?_ | refine s_val rfl rfl rfl (r_eql rfl rfl rfl) ?_ | refine s_val rfl rfl rfl (r_add rfl rfl rfl (wrap_in (by simp only [lo, hi]; omega))) ?_)
      | (refine s_k 35 rfl ?_; refine s_callc (caps := []) hf hname hb rfl rfl rfl rfl rfl rfl (fun w hL => hacc 0 w) ?_)
      | (refine s_k 25 rfl ?_; first | refine s_val rfl rfl rfl (r_ixN tb rfl rfl rfl rfl (by omega)) ?_ | refine s_val rfl rfl rfl (r_ixA tb rfl rfl rfl rfl (by omega) (by omega)) ?_ | refine s_val rfl rfl rfl (r_ixO tb rfl rfl rfl rfl (by omega)) ?_)
      | (refine s_k 4 rfl ?_; first | refine s_boxA rfl rfl rfl rfl rfl fun blk => ?_ | refine s_box1 rfl rfl rfl rfl rfl rfl fun blk => ?_)
      | (refine s_k 9 rfl ?_; (first | refine s_st1 tb rfl rfl rfl rfl rfl rfl rfl rfl ?_ | refine s_stA tb rfl rfl rfl rfl (by first | rfl | assumption | (apply Pv.size; assumption)) rfl rfl ?_); (first | refine' st0 ?qs ?_ | refine' st1 ?qs ?_ | refine' st2 ?qs ?_ | refine' st3 ?qs ?_ | refine' st4 ?qs ?_ | refine' st5 ?qs ?_ | refine' st6 ?qs ?_ | refine' st7 ?qs ?_ | refine' st8 ?qs ?_ | refine' st9 ?qs ?_ | refine' st10 ?qs ?_ | refine' st11 ?qs ?_); (case qs => (first | exact zSet)))
      | (refine s_k 36 rfl ?_; refine s_val rfl rfl rfl (r_len tb rfl rfl rfl) ?_)
      | refine s_nil ?_)
    | (refine c_g ?_; first | refine c_seq ?_ | refine c_region ?_ | (refine c_gc ?_; first | refine c_cond1 rfl zTr ?_ | refine c_cond0 rfl zTr ?_ | refine z_condd1 rfl ?_ | refine z_condd0 rfl ?_ | refine z_conddn1 rfl ?_ | refine z_conddn0 rfl ?_ | refine c_condd rfl (fun hc => ?_) (fun hc => ?_) | refine c_conddn rfl (fun hc => ?_) (fun hc => ?_) | refine c_condn rfl (fun hc => ?_) (fun hc => ?_) | refine c_cond rfl (fun hc => ?_) (fun hc => ?_)) | refine c_block ?_ | refine c_skip ?_ | refine c_exit ?_ | refine c_ret ?_)
    | (refine e_g ?_; first | refine e_then ?_ | refine e_blkn ?_ | refine e_thenx ?_ | refine e_thenr ?_ | refine e_blkr ?_ | refine e_blkx ?_ | refine e_blky rfl ?_)
    | (refine e_ret1 (by simp) rfl (re_tmp rfl) fun w hL => ⟨rfl, hL.toBelow⟩))
theorem pasL_le {p : Nat → Int} {f : Sp → Bool} (hv : validP p = true) : (pasL p f).length ≤ 1048576 := by
  unfold validP at hv
  simp only [Bool.and_eq_true] at hv
  obtain ⟨h0, h1, _⟩ := hv
  unfold inB at h0 h1
  simp at h0 h1
  have h2 : (p 1).toNat * (p 0).toNat ≤ 10 * 10 := Nat.mul_le_mul (by omega) (by omega)
  have h3 := cellL_len f (p 0).toNat ((p 1).toNat * (p 0).toNat)
  unfold pasL
  omega
theorem reaL_len {p : Nat → Int} (ha : p 0 ≤ 10) (hb : p 1 ≤ 10) : ∀ (L : List Sk), (∀ s ∈ L, isC (p 0) (p 1) s.x s.y = true) → (reaL p L).flatten.length ≤ L.length * 100
  | [], _ => by simp [reaL]
  | s :: L, hc => by
    have ih := reaL_len ha hb L (fun t ht => hc t (List.mem_cons_of_mem _ ht))
    have h1 := reachL_len (s := s) ha hb (hc s List.mem_cons_self)
    unfold reaL at ih ⊢
    rw [List.map_cons, List.flatten_cons, List.length_append, List.length_cons, Nat.succ_mul]
    omega
theorem zSpotSl : (Try.prog.info? 40).map (·.zero) = some (some (.slice none 0 0)) := by kernel_rfl
set_option maxRecDepth 100000 in
set_option maxHeartbeats 1600000 in
theorem reachedBy_any (p : Nat → Int) (cs : Array Value) (A : Option Addr) (capL : Nat) (L : List Sk) (cf : FuncId) (fn : Func) (acc : Int → Bool) (w : World) (hp : Pv p cs) (hS : SlA [] w 3 A (L.map Sk.cells)) (hok : ∀ s ∈ L, s.ok) (hv : validP p = true) (hl12 : L.length ≤ 12) (hcell : ∀ s ∈ L, isC (p 0) (p 1) s.x s.y = true)
    (hf : Try.prog.funcs[cf]? = some fn) (hname : (fn.name == "runtime.NumGoroutine") = false) (hb : fn.body.isSome = true) (hacc : ∀ (m : Nat) w', Calls Try.prog cf #[.int .i64 (m : Int)] w' fun e w'' => e = .returned (.bool (acc m)) ∧ Below w'.heap.size w' w'') :
    Calls Try.prog 111 #[.agg cs, .slice A L.length capL, .func (.func cf) #[] #[]] w (NewS 88 2 (flS (pasL p fun c => acc ((cntS (reaL p L).flatten c : Nat) : Int))) w) := by
  have hsz := hp.size
  have hW : p 0 = ((p 0).toNat : Int) ∧ p 1 = ((p 1).toNat : Int) ∧ (p 0).toNat ≤ 10 ∧ (p 1).toNat ≤ 10 := by
    have hv2 := hv
    unfold validP at hv2
    simp only [Bool.and_eq_true] at hv2
    obtain ⟨h0, h1, _⟩ := hv2
    unfold inB at h0 h1
    simp at h0 h1
    omega
  obtain ⟨hW, hH, hW10, hH10⟩ := hW
  have ha10 : p 0 ≤ 10 := by omega
  have hb10 : p 1 ≤ 10 := by omega
  have hrl := reaL_len ha10 hb10 L hcell
  have hll : (reaL p L).length = L.length := by simp [reaL]
  have hrea := fun w hS => reaches_any p cs A capL L w hp hS hok ha10 hb10 (by omega) hcell
  generalize reaL p L = RR at *
  unfold pasL
  have hcells := fun caps f w h => cells_any p cs (p 0).toNat (p 1).toNat 195 _ caps f w hp hW hH hW10 hH10 Try.func195 (by kernel_rfl) rfl h
  generalize (p 0).toNat = W at *
  generalize (p 1).toNat = H at *
  by_cases h0 : 0 < RR.flatten.length
  · refine enter3 Try.func111 rfl rfl rfl (Own.start w) ?_
    repeat' (first
      | (refine s_g ?_; first
      | (refine s_k 0 rfl ?_; refine s_val rfl rfl rfl (r_move rfl rfl) ?_)
      | (refine s_k 8 rfl ?_; first | (refine' s_val rfl rfl rfl (r_ldv rfl rfl ?qm ?qv) ?_; (case qm => (exact zMm)); (case qv => (exact zLe))) | (refine' s_val rfl rfl rfl (r_ldo rfl rfl ?qw (by simp) ?qv) ?_; (case qw => assumption); (case qv => (exact zLe))))
      | (refine s_k 1 rfl ?_; refine s_val rfl rfl rfl (r_assign rfl rfl) ?_)
      | (refine s_k 35 rfl ?_; first | (refine s_callSS (S := RR) Try.func116 (by kernel_rfl) rfl rfl rfl rfl rfl rfl (fun w hL => hrea w (hS.at_ hL)) fun gr capr curr items hAr hIr => ?_; simp only [List.cons_append, List.nil_append]) | (refine s_callN Try.func134 (by kernel_rfl) rfl rfl rfl rfl rfl rfl (fun w hL => concat_some RR _ _ _ _ _ w (hL.at_ m0) (SSs.items hAr hIr (fun i hi => hL.at_ (List.mem_cons_of_mem _ (List.mem_cons_of_mem _ (List.mem_cons_of_mem _ (itR_mem hi)))))) (by omega) (by omega) h0) fun gc kc capc curc hAc => ?_; obtain rfl := hAc.cnt) | (refine s_callN Try.func189 (by kernel_rfl) rfl rfl rfl rfl rfl rfl (fun w hL => hcells [_, _] (fun c => acc ((cntS RR.flatten c : Nat) : Int)) w (fun x y hx hy w' hbl => rbClo_any RR.flatten ⟨x, y⟩ acc cf fn _ _ _ _ _ _ _ _ w' hAc (by omega) (block_below0 (hL.at_ m0) hbl) (block_below0 (hL.at_ m1) hbl) (block_below0 (hL.at_ m3) hbl) hf hname hb hacc)) fun gd kd capd curd hAd => ?_))
      | (refine s_k 4 rfl ?_; first | refine s_boxA rfl rfl rfl rfl rfl fun blk => ?_ | refine s_box1 rfl rfl rfl rfl rfl rfl fun blk => ?_)
      | (refine s_k 9 rfl ?_; (first | refine s_st1 tb rfl rfl rfl rfl rfl rfl rfl rfl ?_ | refine s_stA tb rfl rfl rfl rfl (by first | rfl | assumption | (apply Pv.size; assumption)) rfl rfl ?_); (first | refine' st0 ?qs ?_ | refine' st1 ?qs ?_ | refine' st2 ?qs ?_ | refine' st3 ?qs ?_ | refine' st4 ?qs ?_ | refine' st5 ?qs ?_ | refine' st6 ?qs ?_ | refine' st7 ?qs ?_ | refine' st8 ?qs ?_ | refine' st9 ?qs ?_ | refine' st10 ?qs ?_ | refine' st11 ?qs ?_); (case qs => (first | exact set_one (by decide) rfl | exact zSet)))
      | (refine s_k 3 rfl ?_; refine s_alloc1 (t := 40) rfl zSpotSl rfl rfl rfl rfl fun blk => ?_)
      | (refine s_k 18 rfl ?_; refine s_val rfl rfl rfl (r_func rfl rfl rfl) ?_)
      | refine s_nil ?_)
      | (refine c_g ?_; first | refine c_seq ?_ | refine c_region ?_ | (refine c_gc ?_; first | refine c_cond1 rfl zTr ?_ | refine c_cond0 rfl zTr ?_ | refine z_condd1 rfl ?_ | refine z_condd0 rfl ?_ | refine z_conddn1 rfl ?_ | refine z_conddn0 rfl ?_ | refine c_condd rfl (fun hc => ?_) (fun hc => ?_) | refine c_conddn rfl (fun hc => ?_) (fun hc => ?_) | refine c_condn rfl (fun hc => ?_) (fun hc => ?_) | refine c_cond rfl (fun hc => ?_) (fun hc => ?_)) | refine c_block ?_ | refine c_skip ?_ | refine c_exit ?_ | refine c_ret ?_)
      | (refine e_g ?_; first | refine e_then ?_ | refine e_blkn ?_ | refine e_thenx ?_ | refine e_thenr ?_ | refine e_blkr ?_ | refine e_blkx ?_ | refine e_blky rfl ?_)
      | (refine e_ret1 (by simp) rfl (re_tmp rfl) fun w hL => NewS.of hAd hL m0))
  · have hz : RR.flatten.length = 0 := by omega
    have hze : RR.flatten = [] := List.length_eq_zero_iff.1 hz
    refine enter3 Try.func111 rfl rfl rfl (Own.start w) ?_
    repeat' (first
      | (refine s_g ?_; first
      | (refine s_k 0 rfl ?_; refine s_val rfl rfl rfl (r_move rfl rfl) ?_)
      | (refine s_k 8 rfl ?_; first | (refine' s_val rfl rfl rfl (r_ldv rfl rfl ?qm ?qv) ?_; (case qm => (exact zMm)); (case qv => (exact zLe))) | (refine' s_val rfl rfl rfl (r_ldo rfl rfl ?qw (by simp) ?qv) ?_; (case qw => assumption); (case qv => (exact zLe))))
      | (refine s_k 1 rfl ?_; refine s_val rfl rfl rfl (r_assign rfl rfl) ?_)
      | (refine s_k 35 rfl ?_; first | (refine s_call Try.func134 (by kernel_rfl) rfl rfl rfl rfl rfl rfl (fun w hL => concat_none RR _ _ _ _ _ w (hL.at_ m0) (SSs.items hAr hIr (fun i hi => hL.at_ (List.mem_cons_of_mem _ (List.mem_cons_of_mem _ (List.mem_cons_of_mem _ (itR_mem hi)))))) (by omega) hz) ?_) | (refine s_callSS (S := RR) Try.func116 (by kernel_rfl) rfl rfl rfl rfl rfl rfl (fun w hL => hrea w (hS.at_ hL)) fun gr capr curr items hAr hIr => ?_; simp only [List.cons_append, List.nil_append]) | (refine s_callN Try.func189 (by kernel_rfl) rfl rfl rfl rfl rfl rfl (fun w hL => hcells [_, _] (fun c => acc ((cntS RR.flatten c : Nat) : Int)) w (fun x y hx hy w' hbl => by have q := rbClo_nil ⟨x, y⟩ acc cf fn _ _ _ _ w' (block_below0 (hL.at_ m0) hbl) (block_below0 (hL.at_ m2) hbl) hf hname hb hacc; rw [hze]; exact q)) fun gd kd capd curd hAd => ?_))
      | (refine s_k 4 rfl ?_; first | refine s_boxA rfl rfl rfl rfl rfl fun blk => ?_ | refine s_box1 rfl rfl rfl rfl rfl rfl fun blk => ?_)
      | (refine s_k 9 rfl ?_; (first | refine s_st1 tb rfl rfl rfl rfl rfl rfl rfl rfl ?_ | refine s_stA tb rfl rfl rfl rfl (by first | rfl | assumption | (apply Pv.size; assumption)) rfl rfl ?_); (first | refine' st0 ?qs ?_ | refine' st1 ?qs ?_ | refine' st2 ?qs ?_ | refine' st3 ?qs ?_ | refine' st4 ?qs ?_ | refine' st5 ?qs ?_ | refine' st6 ?qs ?_ | refine' st7 ?qs ?_ | refine' st8 ?qs ?_ | refine' st9 ?qs ?_ | refine' st10 ?qs ?_ | refine' st11 ?qs ?_); (case qs => (first | exact set_one (by decide) rfl | exact zSet)))
      | (refine s_k 3 rfl ?_; refine s_alloc1 (t := 40) rfl zSpotSl rfl rfl rfl rfl fun blk => ?_)
      | (refine s_k 18 rfl ?_; refine s_val rfl rfl rfl (r_func rfl rfl rfl) ?_)
      | refine s_nil ?_)
      | (refine c_g ?_; first | refine c_seq ?_ | refine c_region ?_ | (refine c_gc ?_; first | refine c_cond1 rfl zTr ?_ | refine c_cond0 rfl zTr ?_ | refine z_condd1 rfl ?_ | refine z_condd0 rfl ?_ | refine z_conddn1 rfl ?_ | refine z_conddn0 rfl ?_ | refine c_condd rfl (fun hc => ?_) (fun hc => ?_) | refine c_conddn rfl (fun hc => ?_) (fun hc => ?_) | refine c_condn rfl (fun hc => ?_) (fun hc => ?_) | refine c_cond rfl (fun hc => ?_) (fun hc => ?_)) | refine c_block ?_ | refine c_skip ?_ | refine c_exit ?_ | refine c_ret ?_)
      | (refine e_g ?_; first | refine e_then ?_ | refine e_blkn ?_ | refine e_thenx ?_ | refine e_thenr ?_ | refine e_blkr ?_ | refine e_blkx ?_ | refine e_blky rfl ?_)
      | (refine e_ret1 (by simp) rfl (re_tmp rfl) fun w hL => NewS.of hAd hL m0))
set_option maxRecDepth 100000 in
theorem unc1_any (m : Nat) (w : World) :
    Calls Try.prog 112 #[.int .i64 (m : Int)] w fun e w' => e = .returned (.bool (decide ((m : Int) = 0))) ∧ Below w.heap.size w w' := by
  refine enter1 Try.func112 rfl rfl rfl (Own.start w) ?_
  repeat' (first
    | (refine s_g ?_; first
      | (refine s_k 0 rfl ?_; refine s_val rfl rfl rfl (r_move rfl rfl) ?_)
      | (refine s_k 1 rfl ?_; refine s_val rfl rfl rfl (r_assign rfl rfl) ?_)
      | (refine s_k 13 rfl ?_; refine s_val rfl rfl rfl (r_eql rfl rfl rfl) ?_)
      | refine s_nil ?_)
    | (refine c_g ?_; first | refine c_seq ?_ | refine c_region ?_ | (refine c_gc ?_; first | refine c_cond1 rfl zTr ?_ | refine c_cond0 rfl zTr ?_ | refine z_condd1 rfl ?_ | refine z_condd0 rfl ?_ | refine z_conddn1 rfl ?_ | refine z_conddn0 rfl ?_ | refine c_condd rfl (fun hc => ?_) (fun hc => ?_) | refine c_conddn rfl (fun hc => ?_) (fun hc => ?_) | refine c_condn rfl (fun hc => ?_) (fun hc => ?_) | refine c_cond rfl (fun hc => ?_) (fun hc => ?_)) | refine c_block ?_ | refine c_skip ?_ | refine c_exit ?_ | refine c_ret ?_)
    | (refine e_g ?_; first | refine e_then ?_ | refine e_blkn ?_ | refine e_thenx ?_ | refine e_thenr ?_ | refine e_blkr ?_ | refine e_blkx ?_ | refine e_blky rfl ?_)
    | (refine e_ret1 (by simp) rfl (re_tmp rfl) fun w hL => ⟨rfl, hL.toBelow⟩))
set_option maxRecDepth 100000 in
theorem sha1_any (m : Nat) (w : World) :
    Calls Try.prog 113 #[.int .i64 (m : Int)] w fun e w' => e = .returned (.bool (decide (2 ≤ (m : Int)))) ∧ Below w.heap.size w w' := by
  refine enter1 Try.func113 rfl rfl rfl (Own.start w) ?_
  repeat' (first
    | (refine s_g ?_; first
      | (refine s_k 0 rfl ?_; refine s_val rfl rfl rfl (r_move rfl rfl) ?_)
      | (refine s_k 1 rfl ?_; refine s_val rfl rfl rfl (r_assign rfl rfl) ?_)
      | (refine s_k 13 rfl ?_; refine s_val rfl rfl rfl (r_geq rfl rfl rfl) ?_)
      | refine s_nil ?_)
    | (refine c_g ?_; first | refine c_seq ?_ | refine c_region ?_ | (refine c_gc ?_; first | refine c_cond1 rfl zTr ?_ | refine c_cond0 rfl zTr ?_ | refine z_condd1 rfl ?_ | refine z_condd0 rfl ?_ | refine z_conddn1 rfl ?_ | refine z_conddn0 rfl ?_ | refine c_condd rfl (fun hc => ?_) (fun hc => ?_) | refine c_conddn rfl (fun hc => ?_) (fun hc => ?_) | refine c_condn rfl (fun hc => ?_) (fun hc => ?_) | refine c_cond rfl (fun hc => ?_) (fun hc => ?_)) | refine c_block ?_ | refine c_skip ?_ | refine c_exit ?_ | refine c_ret ?_)
    | (refine e_g ?_; first | refine e_then ?_ | refine e_blkn ?_ | refine e_thenx ?_ | refine e_thenr ?_ | refine e_blkr ?_ | refine e_blkx ?_ | refine e_blky rfl ?_)
    | (refine e_ret1 (by simp) rfl (re_tmp rfl) fun w hL => ⟨rfl, hL.toBelow⟩))
set_option maxRecDepth 100000 in
theorem implUnc_ok (p : Nat → Int) (cs : Array Value) (v : Value) (L : List Sk) (w : World) (hp : Pv p cs) (hU : Sl w 3 v (L.map Sk.cells)) (hok : ∀ s ∈ L, s.ok) (hv : validStk p L = true) :
    Calls Try.prog 22 #[.agg cs, v] w (NewS2 88 2 (flS (pasL p (cntF p L 0 0))) 0 w) := by
  have hsz := hp.size
  have hkc := fun w' (hb : Below w.heap.size w w') => stakeCode_any p cs v L w' hp (hU.below hb) hok
  simp only [hv, if_true] at hkc
  obtain ⟨ha, hb, hl12, hget⟩ := vs_get hv
  have hcell : ∀ s ∈ L, isC (p 0) (p 1) s.x s.y = true := fun s hs => by
    obtain ⟨k, hk⟩ := List.getElem?_of_mem hs
    exact hget k s hk
  obtain ⟨A, cap, rfl, _, _, hS⟩ := hU.open
  rw [List.length_map] at hkc ⊢
  have hby := fun w hS => reachedBy_any p cs A cap L 112 _ (fun m => decide (m = 0)) w hp hS hok (validStk_p hv) hl12 hcell Try.func112 (by kernel_rfl) rfl (fun m w' => unc1_any m w')
  rw [show (pasL p fun c => decide (((cntS (reaL p L).flatten c : Nat) : Int) = 0)) = pasL p (cntF p L 0 0) from unc_cells (acc := fun m => decide (m = 0)) ha hb hok hcell (fun m h1 h2 => by unfold inB; by_cases e : m = 0 <;> simp [e] <;> omega)] at hby
  refine enter2 Try.func22 rfl rfl rfl (Own.start w) ?_
  repeat' (first
    | (refine s_g ?_; first
      | (refine s_k 0 rfl ?_; refine s_val rfl rfl rfl (r_move rfl rfl) ?_)
      | (refine s_k 8 rfl ?_; first | (refine' s_val rfl rfl rfl (r_ldv rfl rfl ?qm ?qv) ?_; (case qm => (exact zMm)); (case qv => (exact zLe))) | (refine' s_val rfl rfl rfl (r_ldo rfl rfl ?qw (by simp) ?qv) ?_; (case qw => assumption); (case qv => (exact zLe))))
      | (refine s_k 1 rfl ?_; refine s_val rfl rfl rfl (r_assign rfl rfl) ?_)
      | (refine s_k 13 rfl ?_; refine s_val rfl rfl rfl (r_neq rfl rfl rfl) ?_)
      | (refine s_k 35 rfl ?_; first | (refine s_call Try.func101 (by kernel_rfl) rfl rfl rfl rfl rfl rfl (fun w hL => hkc w hL.toBelow) ?_) | (refine s_callN Try.func111 (by kernel_rfl) rfl rfl rfl rfl rfl rfl (fun w hL => hby w (hS.at_ hL)) fun g k capn cur hA => ?_; obtain rfl := hA.cnt))
      | (refine s_k 4 rfl ?_; first | refine s_boxA rfl rfl rfl rfl rfl fun blk => ?_ | refine s_box1 rfl rfl rfl rfl rfl rfl fun blk => ?_)
      | refine s_nil ?_)
    | (refine c_g ?_; first | refine c_seq ?_ | refine c_region ?_ | (refine c_gc ?_; first | refine c_cond1 rfl zTr ?_ | refine c_cond0 rfl zTr ?_ | refine z_condd1 rfl ?_ | refine z_condd0 rfl ?_ | refine z_conddn1 rfl ?_ | refine z_conddn0 rfl ?_ | refine c_condd rfl (fun hc => ?_) (fun hc => ?_) | refine c_conddn rfl (fun hc => ?_) (fun hc => ?_) | refine c_condn rfl (fun hc => ?_) (fun hc => ?_) | refine c_cond rfl (fun hc => ?_) (fun hc => ?_)) | refine c_block ?_ | refine c_skip ?_ | refine c_exit ?_ | refine c_ret ?_)
    | (refine e_g ?_; first | refine e_then ?_ | refine e_blkn ?_ | refine e_thenx ?_ | refine e_thenr ?_ | refine e_blkr ?_ | refine e_blkx ?_ | refine e_blky rfl ?_)
    | (refine e_ret2 (by simp) rfl (re_tmp rfl) (re_tmp rfl) fun w hL => NewS2.of hA hL m0))
set_option maxRecDepth 100000 in
theorem implSha_ok (p : Nat → Int) (cs : Array Value) (v : Value) (L : List Sk) (w : World) (hp : Pv p cs) (hU : Sl w 3 v (L.map Sk.cells)) (hok : ∀ s ∈ L, s.ok) (hv : validStk p L = true) :
    Calls Try.prog 28 #[.agg cs, v] w (NewS2 88 2 (flS (pasL p (cntF p L 2 12))) 0 w) := by
  have hsz := hp.size
  have hkc := fun w' (hb : Below w.heap.size w w') => stakeCode_any p cs v L w' hp (hU.below hb) hok
  simp only [hv, if_true] at hkc
  obtain ⟨ha, hb, hl12, hget⟩ := vs_get hv
  have hcell : ∀ s ∈ L, isC (p 0) (p 1) s.x s.y = true := fun s hs => by
    obtain ⟨k, hk⟩ := List.getElem?_of_mem hs
    exact hget k s hk
  obtain ⟨A, cap, rfl, _, _, hS⟩ := hU.open
  rw [List.length_map] at hkc ⊢
  have hby := fun w hS => reachedBy_any p cs A cap L 113 _ (fun m => decide (2 ≤ m)) w hp hS hok (validStk_p hv) hl12 hcell Try.func113 (by kernel_rfl) rfl (fun m w' => sha1_any m w')
  rw [show (pasL p fun c => decide (2 ≤ ((cntS (reaL p L).flatten c : Nat) : Int))) = pasL p (cntF p L 2 12) from unc_cells (acc := fun m => decide (2 ≤ m)) ha hb hok hcell (fun m h1 h2 => by unfold inB; by_cases e : 2 ≤ m <;> simp [e] <;> omega)] at hby
  refine enter2 Try.func28 rfl rfl rfl (Own.start w) ?_
  repeat' (first
    | (refine s_g ?_; first
      | (refine s_k 0 rfl ?_; refine s_val rfl rfl rfl (r_move rfl rfl) ?_)
      | (refine s_k 8 rfl ?_; first | (refine' s_val rfl rfl rfl (r_ldv rfl rfl ?qm ?qv) ?_; (case qm => (exact zMm)); (case qv => (exact zLe))) | (refine' s_val rfl rfl rfl (r_ldo rfl rfl ?qw (by simp) ?qv) ?_; (case qw => assumption); (case qv => (exact zLe))))
      | (refine s_k 1 rfl ?_; refine s_val rfl rfl rfl (r_assign rfl rfl) ?_)
      | (refine s_k 13 rfl ?_; refine s_val rfl rfl rfl (r_neq rfl rfl rfl) ?_)
      | (refine s_k 35 rfl ?_; first | (refine s_call Try.func101 (by kernel_rfl) rfl rfl rfl rfl rfl rfl (fun w hL => hkc w hL.toBelow) ?_) | (refine s_callN Try.func111 (by kernel_rfl) rfl rfl rfl rfl rfl rfl (fun w hL => hby w (hS.at_ hL)) fun g k capn cur hA => ?_; obtain rfl := hA.cnt))
      | (refine s_k 4 rfl ?_; first | refine s_boxA rfl rfl rfl rfl rfl fun blk => ?_ | refine s_box1 rfl rfl rfl rfl rfl rfl fun blk => ?_)
      | refine s_nil ?_)
    | (refine c_g ?_; first | refine c_seq ?_ | refine c_region ?_ | (refine c_gc ?_; first | refine c_cond1 rfl zTr ?_ | refine c_cond0 rfl zTr ?_ | refine z_condd1 rfl ?_ | refine z_condd0 rfl ?_ | refine z_conddn1 rfl ?_ | refine z_conddn0 rfl ?_ | refine c_condd rfl (fun hc => ?_) (fun hc => ?_) | refine c_conddn rfl (fun hc => ?_) (fun hc => ?_) | refine c_condn rfl (fun hc => ?_) (fun hc => ?_) | refine c_cond rfl (fun hc => ?_) (fun hc => ?_)) | refine c_block ?_ | refine c_skip ?_ | refine c_exit ?_ | refine c_ret ?_)
    | (refine e_g ?_; first | refine e_then ?_ | refine e_blkn ?_ | refine e_thenx ?_ | refine e_thenr ?_ | refine e_blkr ?_ | refine e_blkx ?_ | refine e_blky rfl ?_)
    | (refine e_ret2 (by simp) rfl (re_tmp rfl) (re_tmp rfl) fun w hL => NewS2.of hA hL m0))
/-! for the laws: of a slice made by the caller -/
section
variable (p : Nat → Int) (cs : Array Value) (L : List Sk) (g n cap : Nat) (cur : Array Value) (w : World)
theorem specUncoveredBy_new (hp : Pv p cs) (hok : ∀ s ∈ L, s.ok) (hv : validStk p L = true) (hA : Ap 3 n cap cur (L.map Sk.cells).flatten) (hg : w.heap[g]? = some (.cells cur 132 (0, 0))) : Calls Try.prog 21 #[.agg cs, .slice (some ⟨g, 0, none⟩) n cap] w (NewS2 88 2 (flS (pasL p (cntF p L 0 0))) 0 w) := specUnc_ok p cs _ L w hp (hA.toSl (lenSk L) (by omega) hg) hok hv
theorem implUncoveredBy_new (hp : Pv p cs) (hok : ∀ s ∈ L, s.ok) (hv : validStk p L = true) (hA : Ap 3 n cap cur (L.map Sk.cells).flatten) (hg : w.heap[g]? = some (.cells cur 132 (0, 0))) : Calls Try.prog 22 #[.agg cs, .slice (some ⟨g, 0, none⟩) n cap] w (NewS2 88 2 (flS (pasL p (cntF p L 0 0))) 0 w) := implUnc_ok p cs _ L w hp (hA.toSl (lenSk L) (by omega) hg) hok hv
theorem specUncoveredBy_nonew (hp : Pv p cs) (hok : ∀ s ∈ L, s.ok) (hv : validStk p L = false) (hA : Ap 3 n cap cur (L.map Sk.cells).flatten) (hg : w.heap[g]? = some (.cells cur 132 (0, 0))) : Calls Try.prog 21 #[.agg cs, .slice (some ⟨g, 0, none⟩) n cap] w (NewS2 88 2 [] 1 w) := specUnc_no p cs _ L w hp (hA.toSl (lenSk L) (by omega) hg) hok hv
theorem implUncoveredBy_nonew (hp : Pv p cs) (hok : ∀ s ∈ L, s.ok) (hv : validStk p L = false) (hA : Ap 3 n cap cur (L.map Sk.cells).flatten) (hg : w.heap[g]? = some (.cells cur 132 (0, 0))) : Calls Try.prog 22 #[.agg cs, .slice (some ⟨g, 0, none⟩) n cap] w fun e w' => e = .returned (.tuple #[.slice none 0 0, .int .i64 1]) ∧ Below w.heap.size w w' := implUnc_no p cs _ L w hp (hA.toSl (lenSk L) (by omega) hg) hok hv
theorem specSharedCells_new (hp : Pv p cs) (hok : ∀ s ∈ L, s.ok) (hv : validStk p L = true) (hA : Ap 3 n cap cur (L.map Sk.cells).flatten) (hg : w.heap[g]? = some (.cells cur 132 (0, 0))) : Calls Try.prog 27 #[.agg cs, .slice (some ⟨g, 0, none⟩) n cap] w (NewS2 88 2 (flS (pasL p (cntF p L 2 12))) 0 w) := specSha_ok p cs _ L w hp (hA.toSl (lenSk L) (by omega) hg) hok hv
theorem implSharedCells_new (hp : Pv p cs) (hok : ∀ s ∈ L, s.ok) (hv : validStk p L = true) (hA : Ap 3 n cap cur (L.map Sk.cells).flatten) (hg : w.heap[g]? = some (.cells cur 132 (0, 0))) : Calls Try.prog 28 #[.agg cs, .slice (some ⟨g, 0, none⟩) n cap] w (NewS2 88 2 (flS (pasL p (cntF p L 2 12))) 0 w) := implSha_ok p cs _ L w hp (hA.toSl (lenSk L) (by omega) hg) hok hv
theorem specSharedCells_nonew (hp : Pv p cs) (hok : ∀ s ∈ L, s.ok) (hv : validStk p L = false) (hA : Ap 3 n cap cur (L.map Sk.cells).flatten) (hg : w.heap[g]? = some (.cells cur 132 (0, 0))) : Calls Try.prog 27 #[.agg cs, .slice (some ⟨g, 0, none⟩) n cap] w (NewS2 88 2 [] 1 w) := specSha_no p cs _ L w hp (hA.toSl (lenSk L) (by omega) hg) hok hv
theorem implSharedCells_nonew (hp : Pv p cs) (hok : ∀ s ∈ L, s.ok) (hv : validStk p L = false) (hA : Ap 3 n cap cur (L.map Sk.cells).flatten) (hg : w.heap[g]? = some (.cells cur 132 (0, 0))) : Calls Try.prog 28 #[.agg cs, .slice (some ⟨g, 0, none⟩) n cap] w fun e w' => e = .returned (.tuple #[.slice none 0 0, .int .i64 1]) ∧ Below w.heap.size w w' := implSha_no p cs _ L w hp (hA.toSl (lenSk L) (by omega) hg) hok hv
end
end Go.Proofs.Ytpifngdmlmfnhaa
