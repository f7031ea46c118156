/- WaysApart: the program's and the reference's return the same, for all arguments: no condition. -/
import Derived.Test.YtnafnhpajkhgkaaQW15
import Derived.Test.YtnafnhpajkhgkaaQW46
import Derived.Test.YtnafnhpajkhgkaaQW47
import Derived.Test.YtnafnhpajkhgkaaQW48
namespace Go.Proofs.Ytnafnhpajkhgkaa
set_option linter.unusedVariables false
set_option linter.unusedSimpArgs false
open Go.RowKit Mem Wk
theorem waI_all {p : Nat → Int} {A B : List Sp} (hv : validP p = true) (hr : rowsIn p) (hA : ∀ c ∈ A, cel p c) (hB : ∀ c ∈ B, cel p c) (hno : cmnL A B = []) : ∀ n, ∃ i, WaI p (wS p A B n).1 (wS p A B n).2 i
  | 0 => ⟨0, WaI.zero hv hr⟩
  | n + 1 => by
    obtain ⟨i, h⟩ := waI_all hv hr hA hB hno n
    by_cases h0 : specW (wS p A B n).1 A B = []
    · rw [show wS p A B (n + 1) = wS p A B n from wS_stay h0 1]; exact ⟨i, h⟩
    · rw [wS_succ h0]; exact ⟨i + 1, (h.step hA hB hno h0).1⟩
theorem flat_le : ∀ (S : List (List Sp)), (∀ s ∈ S, s.length ≤ 101) → S.flatten.length ≤ 101 * S.length
  | [], _ => by simp
  | a :: S, h => by
    have h1 := h a (by simp)
    have h2 := flat_le S fun s hs => h s (by simp [hs])
    simp only [List.flatten_cons, List.length_append, List.length_cons]; omega
theorem waR_size {p : Nat → Int} {A B : List Sp} (hv : validP p = true) (hr : rowsIn p) (hA : ∀ c ∈ A, cel p c) (hB : ∀ c ∈ B, cel p c) (hno : cmnL A B = []) : (waR p A B).length ≤ 200 ∧ (∀ s ∈ waR p A B, s.length ≤ 101) ∧ (waR p A B).flatten.length ≤ 1048576 := by
  unfold waR
  obtain ⟨i, h⟩ := waI_all hv hr hA hB hno (opnN p)
  have h1 := h.n
  have h2 := h.len
  have h3 := opnN_le hv
  have h4 := flat_le _ fun s hs => (h.w s hs).1
  exact ⟨by omega, fun s hs => (h.w s hs).1, by omega⟩
theorem markSpotS_z (z : Int) (n cap g : Nat) (cur : Array Value) (w : World) (h0 : 0 ≤ z) (h1 : z ≤ 100000000) (hs : n * 2 ≤ cur.size) (hg : w.heap[g]? = some (.cells cur 52 (0, 0))) (hn : n ≤ 1048576) :
    Calls Try.prog 16 #[.slice (some ⟨g, 0, none⟩) n cap, .int .i64 z] w fun e w' => e = .returned (.int .i64 (z + ((n * 2 : Nat) : Int))) ∧ ∃ cs', (cs'.size = cur.size) ∧ Upd w w' g 52 cs' := by
  obtain ⟨k0, rfl⟩ := Int.eq_ofNat_of_zero_le h0
  exact (markSpotS_k k0 n cap g cur w hs hg hn (by omega)).mono fun e w' ⟨he, cs', ⟨h1, _⟩, hu⟩ => ⟨he, cs', h1, hu⟩
attribute [local irreducible] Calls Wk.S Wk.C Wk.E Wk.X Wk.T Wk.Y Calm.wpLex CalmB.wpLex waR
theorem markSS_nil (w : World) : Calls Try.prog 17 #[.slice none 0 0, .int .i64 1] w fun e w' => e = .returned (.int .i64 1) ∧ Below w.heap.size w w' := by
  refine enter2 Try.func17 rfl rfl rfl (Own.start w) ?_
  repeat' (first
    | (refine s_g ?_; first
      | (refine s_k 0 rfl ?_; refine s_val rfl rfl rfl (r_move rfl rfl) ?_)
      | (refine s_k 8 rfl ?_; first | (refine' s_val rfl rfl rfl (r_ldv rfl rfl ?qm ?qv) ?_; (case qm => (exact zMm)); (case qv => (exact zLe))) | (refine' s_val rfl rfl rfl (r_ldo rfl rfl ?qw (by simp) ?qv) ?_; (case qw => assumption); (case qv => (exact zLe))))
      | (refine s_k 1 rfl ?_; refine s_val rfl rfl rfl (r_assign rfl rfl) ?_)
      | (refine s_k 13 rfl ?_; first | refine s_val rfl rfl rfl (r_lss rfl rfl rfl) ?_ | refine s_val rfl rfl rfl (r_add rfl rfl rfl (wrap_in (by simp only [lo, hi]; omega))) ?_)
      | (refine s_k 25 rfl ?_; first | refine s_val rfl rfl rfl (r_ixN tb rfl rfl rfl rfl (by omega)) ?_ | refine s_val rfl rfl rfl (r_ixA tb rfl rfl rfl rfl (by omega) (by omega)) ?_ | refine s_val rfl rfl rfl (r_ixO tb rfl rfl rfl rfl (by omega)) ?_)
      | (refine s_k 36 rfl ?_; refine s_val rfl rfl rfl (r_len tb rfl rfl rfl) ?_)
      | refine s_nil ?_)
    | (refine c_g ?_; first | refine c_seq ?_ | refine c_region ?_ | (refine c_gc ?_; first | refine c_cond1 rfl zTr ?_ | refine c_cond0 rfl zTr ?_ | refine z_condd1 rfl ?_ | refine z_condd0 rfl ?_ | refine z_conddn1 rfl ?_ | refine z_conddn0 rfl ?_ | refine c_condd rfl (fun hc => ?_) (fun hc => ?_) | refine c_conddn rfl (fun hc => ?_) (fun hc => ?_) | refine c_condn rfl (fun hc => ?_) (fun hc => ?_) | refine c_cond rfl (fun hc => ?_) (fun hc => ?_)) | refine c_block ?_ | refine c_skip ?_ | refine c_exit ?_ | refine c_ret ?_)
    | (refine e_g ?_; first | refine e_then ?_ | refine e_blkn ?_ | refine e_thenx ?_ | refine e_thenr ?_ | refine e_blkr ?_ | refine e_blkx ?_ | refine e_blky rfl ?_))
  refine c_loop (ι := Unit) (fun _ => 0) (fun _ => True) (fun _ => [(5, .int .i64 0), (1, .int .i64 1), (0, .slice none 0 0)]) (fun _ => []) () trivial ?hs rfl ?_
  case hs => (repeat' (first | exact sub_nil | refine sub_cons rfl ?_))
  rintro _ _
  repeat' (first
    | (refine s_g ?_; first
      | (refine s_k 0 rfl ?_; refine s_val rfl rfl rfl (r_move rfl rfl) ?_)
      | (refine s_k 8 rfl ?_; first | (refine' s_val rfl rfl rfl (r_ldv rfl rfl ?qm ?qv) ?_; (case qm => (exact zMm)); (case qv => (exact zLe))) | (refine' s_val rfl rfl rfl (r_ldo rfl rfl ?qw (by simp) ?qv) ?_; (case qw => assumption); (case qv => (exact zLe))))
      | (refine s_k 1 rfl ?_; refine s_val rfl rfl rfl (r_assign rfl rfl) ?_)
      | (refine s_k 13 rfl ?_; first | refine s_val rfl rfl rfl (r_lss rfl rfl rfl) ?_ | refine s_val rfl rfl rfl (r_add rfl rfl rfl (wrap_in (by simp only [lo, hi]; omega))) ?_)
      | (refine s_k 25 rfl ?_; first | refine s_val rfl rfl rfl (r_ixN tb rfl rfl rfl rfl (by omega)) ?_ | refine s_val rfl rfl rfl (r_ixA tb rfl rfl rfl rfl (by omega) (by omega)) ?_ | refine s_val rfl rfl rfl (r_ixO tb rfl rfl rfl rfl (by omega)) ?_)
      | (refine s_k 36 rfl ?_; refine s_val rfl rfl rfl (r_len tb rfl rfl rfl) ?_)
      | refine s_nil ?_)
    | (refine c_g ?_; first | refine c_seq ?_ | refine c_region ?_ | (refine c_gc ?_; first | refine c_cond1 rfl zTr ?_ | refine c_cond0 rfl zTr ?_ | refine z_condd1 rfl ?_ | refine z_condd0 rfl ?_ | refine z_conddn1 rfl ?_ | refine z_conddn0 rfl ?_ | refine c_condd rfl (fun hc => ?_) (fun hc => ?_) | refine c_conddn rfl (fun hc => ?_) (fun hc => ?_) | refine c_condn rfl (fun hc => ?_) (fun hc => ?_) | refine c_cond rfl (fun hc => ?_) (fun hc => ?_)) | refine c_block ?_ | refine c_skip ?_ | refine c_exit ?_ | refine c_ret ?_)
    | (refine e_g ?_; first | refine e_then ?_ | refine e_blkn ?_ | refine e_thenx ?_ | refine e_thenr ?_ | refine e_blkr ?_ | refine e_blkx ?_ | refine e_blky rfl ?_)
    | (refine e_ret1 (by simp) rfl (re_tmp rfl) fun w hL => ⟨rfl, hL.toBelow⟩))
theorem heldSS_nil (w : World) : Calls Try.prog 18 #[.slice none 0 0, .int .i64 1] w fun e w' => e = .returned (.int .i64 1) ∧ Below w.heap.size w w' := by
  refine enter2 Try.func18 rfl rfl rfl (Own.start w) ?_
  repeat' (first
    | (refine s_g ?_; first
      | (refine s_k 0 rfl ?_; refine s_val rfl rfl rfl (r_move rfl rfl) ?_)
      | (refine s_k 8 rfl ?_; first | (refine' s_val rfl rfl rfl (r_ldv rfl rfl ?qm ?qv) ?_; (case qm => (exact zMm)); (case qv => (exact zLe))) | (refine' s_val rfl rfl rfl (r_ldo rfl rfl ?qw (by simp) ?qv) ?_; (case qw => assumption); (case qv => (exact zLe))))
      | (refine s_k 1 rfl ?_; refine s_val rfl rfl rfl (r_assign rfl rfl) ?_)
      | (refine s_k 13 rfl ?_; first | refine s_val rfl rfl rfl (r_lss rfl rfl rfl) ?_ | refine s_val rfl rfl rfl (r_add rfl rfl rfl (wrap_in (by simp only [lo, hi]; omega))) ?_)
      | (refine s_k 25 rfl ?_; first | refine s_val rfl rfl rfl (r_ixN tb rfl rfl rfl rfl (by omega)) ?_ | refine s_val rfl rfl rfl (r_ixA tb rfl rfl rfl rfl (by omega) (by omega)) ?_ | refine s_val rfl rfl rfl (r_ixO tb rfl rfl rfl rfl (by omega)) ?_)
      | (refine s_k 36 rfl ?_; refine s_val rfl rfl rfl (r_len tb rfl rfl rfl) ?_)
      | refine s_nil ?_)
    | (refine c_g ?_; first | refine c_seq ?_ | refine c_region ?_ | (refine c_gc ?_; first | refine c_cond1 rfl zTr ?_ | refine c_cond0 rfl zTr ?_ | refine z_condd1 rfl ?_ | refine z_condd0 rfl ?_ | refine z_conddn1 rfl ?_ | refine z_conddn0 rfl ?_ | refine c_condd rfl (fun hc => ?_) (fun hc => ?_) | refine c_conddn rfl (fun hc => ?_) (fun hc => ?_) | refine c_condn rfl (fun hc => ?_) (fun hc => ?_) | refine c_cond rfl (fun hc => ?_) (fun hc => ?_)) | refine c_block ?_ | refine c_skip ?_ | refine c_exit ?_ | refine c_ret ?_)
    | (refine e_g ?_; first | refine e_then ?_ | refine e_blkn ?_ | refine e_thenx ?_ | refine e_thenr ?_ | refine e_blkr ?_ | refine e_blkx ?_ | refine e_blky rfl ?_))
  refine c_loop (ι := Unit) (fun _ => 0) (fun _ => True) (fun _ => [(5, .int .i64 0), (1, .int .i64 1), (0, .slice none 0 0)]) (fun _ => []) () trivial ?hs rfl ?_
  case hs => (repeat' (first | exact sub_nil | refine sub_cons rfl ?_))
  rintro _ _
  repeat' (first
    | (refine s_g ?_; first
      | (refine s_k 0 rfl ?_; refine s_val rfl rfl rfl (r_move rfl rfl) ?_)
      | (refine s_k 8 rfl ?_; first | (refine' s_val rfl rfl rfl (r_ldv rfl rfl ?qm ?qv) ?_; (case qm => (exact zMm)); (case qv => (exact zLe))) | (refine' s_val rfl rfl rfl (r_ldo rfl rfl ?qw (by simp) ?qv) ?_; (case qw => assumption); (case qv => (exact zLe))))
      | (refine s_k 1 rfl ?_; refine s_val rfl rfl rfl (r_assign rfl rfl) ?_)
      | (refine s_k 13 rfl ?_; first | refine s_val rfl rfl rfl (r_lss rfl rfl rfl) ?_ | refine s_val rfl rfl rfl (r_add rfl rfl rfl (wrap_in (by simp only [lo, hi]; omega))) ?_)
      | (refine s_k 25 rfl ?_; first | refine s_val rfl rfl rfl (r_ixN tb rfl rfl rfl rfl (by omega)) ?_ | refine s_val rfl rfl rfl (r_ixA tb rfl rfl rfl rfl (by omega) (by omega)) ?_ | refine s_val rfl rfl rfl (r_ixO tb rfl rfl rfl rfl (by omega)) ?_)
      | (refine s_k 36 rfl ?_; refine s_val rfl rfl rfl (r_len tb rfl rfl rfl) ?_)
      | refine s_nil ?_)
    | (refine c_g ?_; first | refine c_seq ?_ | refine c_region ?_ | (refine c_gc ?_; first | refine c_cond1 rfl zTr ?_ | refine c_cond0 rfl zTr ?_ | refine z_condd1 rfl ?_ | refine z_condd0 rfl ?_ | refine z_conddn1 rfl ?_ | refine z_conddn0 rfl ?_ | refine c_condd rfl (fun hc => ?_) (fun hc => ?_) | refine c_conddn rfl (fun hc => ?_) (fun hc => ?_) | refine c_condn rfl (fun hc => ?_) (fun hc => ?_) | refine c_cond rfl (fun hc => ?_) (fun hc => ?_)) | refine c_block ?_ | refine c_skip ?_ | refine c_exit ?_ | refine c_ret ?_)
    | (refine e_g ?_; first | refine e_then ?_ | refine e_blkn ?_ | refine e_thenx ?_ | refine e_thenr ?_ | refine e_blkr ?_ | refine e_blkx ?_ | refine e_blky rfl ?_)
    | (refine e_ret1 (by simp) rfl (re_tmp rfl) fun w hL => ⟨rfl, hL.toBelow⟩))
theorem nilSS (w : World) : SlSS w (.slice none 0 0) [] := ⟨[], sl_nil _ _, rfl, fun k s u h => by simp at h⟩
theorem Wk.s_callSS2 {P : Program} {ops : Array Oper} {Q : Exit → Act → World → Prop} {n : Nat} {O : List Nat} {w0 : World} {o : Oper} {rest : List Oper} {l : List (Nat × Value)} {L : List (Nat × TypeId × Array Value)} {f : FuncId} {fn : Func} {xs : Array Operand} {ts : Array TypeId} {vs : List Value} {d : Nat} {S : List (List Sp)} {c : Int} (hf : P.funcs[f]? = some fn) (hname : (fn.name == "runtime.NumGoroutine") = false) (hb : fn.body.isSome = true) (hg : o.guard = none) (hd : o.dst = some d) (hn : Nat.blt d n = true)
    (hop : o.op = .call { callee := .value (.func f), args := xs, argTypes := ts }) (hargs : evs l xs.toList = some vs) (hc : ∀ w, Kn O w0 w L → Calls P f vs.toArray w (NewSS2 S c w)) (h : ∀ g cap cur items, Ap 1 S.length cap cur (itV S items) → ItOk S items → Wk.S P ops Q n O w0 rest ((d, .tuple #[.slice (some ⟨g, 0, none⟩) S.length cap, .int .i64 c]) :: l) ((g, 36, cur) :: (L ++ itR items))) : Wk.S P ops Q n O w0 (o :: rest) l L :=
  s_callR (ι := Nat × Nat × Array Value × List (Nat × Nat × Array Value)) (fun i => Ap 1 S.length i.2.1 i.2.2.1 (itV S i.2.2.2) ∧ ItOk S i.2.2.2) (fun i => .tuple #[.slice (some ⟨i.1, 0, none⟩) S.length i.2.1, .int .i64 c]) (fun i => (i.1, 36, i.2.2.1) :: (L ++ itR i.2.2.2)) hf hname hb hg hd hn hop hargs
    (fun w hL => (hc w hL).mono fun e w' ⟨g, cap, cur, items, he, hA, hI, hN⟩ => ⟨(g, cap, cur, items), ⟨hA, hI⟩, he, Kn.perm (Kn.app hL hN) (List.Perm.cons _ List.perm_append_comm)⟩) (fun ⟨g, cap, cur, items⟩ ⟨hA, hI⟩ => h g cap cur items hA hI)
/-- the marks in the lists whose blocks stand last -/
theorem Wk.s_markSS {ops : Array Oper} {Q : Exit → Act → World → Prop} {n : Nat} {O : List Nat} {w0 : World} {o : Oper} {rest : List Oper} {l : List (Nat × Value)} {X : List (Nat × TypeId × Array Value)} {fn : Func} {xs : Array Operand} {ts : Array TypeId} {d : Nat} {S : List (List Sp)} {I : List (Nat × Nat × Array Value)} {g cap : Nat} {cur : Array Value} {T : TypeId} (hf : Try.prog.funcs[17]? = some fn) (hname : (fn.name == "runtime.NumGoroutine") = false) (hb : fn.body.isSome = true) (hg : o.guard = none) (hd : o.dst = some d) (hn : Nat.blt d n = true)
    (hop : o.op = .call { callee := .value (.func 17), args := xs, argTypes := ts }) (hargs : evs l xs.toList = some [.slice (some ⟨g, 0, none⟩) S.length cap, .int .i64 1]) (hA : Ap 1 S.length cap cur (itV S I)) (hI : ItOk S I) (hgX : (g, T, cur) ∈ X) (hnS : S.length ≤ 1048576) (hnN : S.flatten.length ≤ 1048576)
    (h : ∀ I', MkSS S I I' S.length → Wk.S Try.prog ops Q n O w0 rest ((d, .int .i64 (toN S S.length : Int)) :: l) (X ++ itR I')) : Wk.S Try.prog ops Q n O w0 (o :: rest) l (X ++ itR I) :=
  s_callR (ι := List (Nat × Nat × Array Value)) (fun I' => MkSS S I I' S.length) (fun _ => .int .i64 (toN S S.length : Int)) (fun I' => X ++ itR I') hf hname hb hg hd hn hop hargs
    (fun w hL => by
      have hnd := hL.nodup
      rw [List.map_append, List.nodup_append] at hnd
      have hpm : ∀ J : List (Nat × Nat × Array Value), (X ++ itR J).Perm (itF J ++ X) := fun J => List.perm_append_comm.trans ((itF_perm J).symm.append_right X)
      have hfm : (I.map (·.1)).Perm ((itR I).map (·.1)) := by rw [← itF_fst]; exact (itF_perm I).map _
      refine (markSS_any S I g cap cur T w hA hI (hL.has _ (List.mem_append_left _ hgX)) (fun i hi => hL.has (i.1, 52, i.2.2) (List.mem_append_right _ (itR_mem hi))) (hfm.nodup_iff.2 hnd.2.1) (fun hm => hnd.2.2 g (List.mem_map.2 ⟨_, hgX, rfl⟩) g (hfm.mem_iff.1 hm) rfl) hnS hnN).mono fun e w' ⟨he, I', hM, hU⟩ => ⟨I', hM, he, ?_⟩
      exact Kn.perm (Kn.updL (Kn.perm hL (hpm I)) hU (by rw [itF_fst, itF_fst, hM.fst])) (hpm I').symm) (fun I' hM => h I' hM)
set_option maxRecDepth 100000 in
set_option maxHeartbeats 6400000 in
theorem FnExactWaysApart_walk (p0 : Nat → Int) (c0 : Array Value) (v1 : Value) (l1 : List Sp) (v2 : Value) (l2 : List Sp) (w : World) (hp0 : Pv p0 c0) (hl1 : Sl w 2 v1 (l1.map Sp.cells)) (ho1 : ∀ s ∈ l1, s.ok) (hl2 : Sl w 2 v2 (l2.map Sp.cells)) (ho2 : ∀ s ∈ l2, s.ok) :
    Calls Try.prog 4 #[.agg c0, v1, v2] w fun e w' => e = .returned (.bool true) ∧ Below w.heap.size w w' := by
  have hsz := hp0.size
  by_cases hn1 : (l1.length : Int) ≤ 1048576
  case neg =>
    refine enter3 Try.func4 rfl rfl rfl (Own.start w) ?_
    repeat' (first
      | (refine s_g ?_; first
      | (refine s_gd rfl ?_; first | refine s_gd1 rfl rfl zTr ?_ | refine s_gd0 rfl rfl rfl zTr ?_ | refine s_gd00 rfl rfl zTr ?_ | refine s_gp1 rfl rfl rfl (fun hc => ?_) (fun hc => ?_) | refine s_gp0 rfl rfl rfl (fun hc => ?_) (fun hc => ?_) | refine s_gnp1 rfl rfl rfl (fun hc => ?_) (fun hc => ?_) | refine s_gnp0 rfl rfl rfl (fun hc => ?_) (fun hc => ?_) | refine s_gb1 rfl rfl rfl (fun hc => ?_) (fun hc => ?_) | refine s_gb0 rfl rfl rfl (fun hc => ?_) (fun hc => ?_) | refine s_gnb1 rfl rfl rfl (fun hc => ?_) (fun hc => ?_) | refine s_gnb0 rfl rfl rfl (fun hc => ?_) (fun hc => ?_))
      | (refine s_k 0 rfl ?_; refine s_val rfl rfl rfl (r_move rfl rfl) ?_)
      | (refine s_k 8 rfl ?_; first | (refine' s_val rfl rfl rfl (r_ldv rfl rfl ?qm ?qv) ?_; (case qm => (exact zMm)); (case qv => (exact zLe))) | (refine' s_val rfl rfl rfl (r_ldo rfl rfl ?qw (by simp) ?qv) ?_; (case qw => assumption); (case qv => (exact zLe))))
      | (refine s_k 1 rfl ?_; refine s_val rfl rfl rfl (r_assign rfl rfl) ?_)
      | (refine s_k 13 rfl ?_; first | refine s_val rfl rfl rfl (r_lss rfl rfl rfl) ?_ | refine s_val rfl rfl rfl (r_neq rfl rfl rfl) ?_)
      | (refine s_k 35 rfl ?_; (refine s_call Try.func6 (by kernel_rfl) rfl rfl rfl rfl rfl rfl (fun w hL => szg (szSpotS_any v1 l1 1048576 _ (hl1.below hL.toBelow) (by decide) (by decide)) hn1) ?_))
      | (refine s_k 14 rfl ?_; refine s_val rfl rfl rfl (r_not rfl rfl) ?_)
      | (refine s_k 2 rfl ?_; first | refine s_val rfl rfl rfl (r_pick1 rfl rfl zTr rfl) ?_ | refine s_val rfl rfl rfl (r_pick0 rfl rfl zTr rfl) ?_)
      | (refine s_k 4 rfl ?_; first | refine s_boxA rfl rfl rfl rfl rfl fun blk => ?_ | refine s_box1 rfl rfl rfl rfl rfl rfl fun blk => ?_)
      | (refine s_k 34 rfl ?_; refine s_val rfl rfl rfl (r_extractL rfl rfl rfl) ?_)
      | refine s_nil ?_)
      | (refine c_g ?_; first | refine c_seq ?_ | refine c_region ?_ | (refine c_gc ?_; first | refine c_cond1 rfl zTr ?_ | refine c_cond0 rfl zTr ?_ | refine z_condd1 rfl ?_ | refine z_condd0 rfl ?_ | refine z_conddn1 rfl ?_ | refine z_conddn0 rfl ?_ | refine c_condd rfl (fun hc => ?_) (fun hc => ?_) | refine c_conddn rfl (fun hc => ?_) (fun hc => ?_) | refine c_condn rfl (fun hc => ?_) (fun hc => ?_) | refine c_cond rfl (fun hc => ?_) (fun hc => ?_)) | refine c_block ?_ | refine c_skip ?_ | refine c_exit ?_ | refine c_ret ?_)
      | (refine e_g ?_; first | refine e_then ?_ | refine e_blkn ?_ | refine e_thenx ?_ | refine e_thenr ?_ | refine e_blkr ?_ | refine e_blkx ?_ | refine e_blky rfl ?_)
      | (refine e_ret1 (by simp) rfl (re_tmp rfl) fun w hL => ⟨rfl, hL.toBelow⟩))
  case pos =>
  by_cases hn2 : (l2.length : Int) ≤ 1048576 - l1.length
  case neg =>
    refine enter3 Try.func4 rfl rfl rfl (Own.start w) ?_
    repeat' (first
      | (refine s_g ?_; first
      | (refine s_gd rfl ?_; first | refine s_gd1 rfl rfl zTr ?_ | refine s_gd0 rfl rfl rfl zTr ?_ | refine s_gd00 rfl rfl zTr ?_ | refine s_gp1 rfl rfl rfl (fun hc => ?_) (fun hc => ?_) | refine s_gp0 rfl rfl rfl (fun hc => ?_) (fun hc => ?_) | refine s_gnp1 rfl rfl rfl (fun hc => ?_) (fun hc => ?_) | refine s_gnp0 rfl rfl rfl (fun hc => ?_) (fun hc => ?_) | refine s_gb1 rfl rfl rfl (fun hc => ?_) (fun hc => ?_) | refine s_gb0 rfl rfl rfl (fun hc => ?_) (fun hc => ?_) | refine s_gnb1 rfl rfl rfl (fun hc => ?_) (fun hc => ?_) | refine s_gnb0 rfl rfl rfl (fun hc => ?_) (fun hc => ?_))
      | (refine s_k 0 rfl ?_; refine s_val rfl rfl rfl (r_move rfl rfl) ?_)
      | (refine s_k 8 rfl ?_; first | (refine' s_val rfl rfl rfl (r_ldv rfl rfl ?qm ?qv) ?_; (case qm => (exact zMm)); (case qv => (exact zLe))) | (refine' s_val rfl rfl rfl (r_ldo rfl rfl ?qw (by simp) ?qv) ?_; (case qw => assumption); (case qv => (exact zLe))))
      | (refine s_k 1 rfl ?_; refine s_val rfl rfl rfl (r_assign rfl rfl) ?_)
      | (refine s_k 13 rfl ?_; first | refine s_val rfl rfl rfl (r_lss rfl rfl rfl) ?_ | refine s_val rfl rfl rfl (r_neq rfl rfl rfl) ?_)
      | (refine s_k 35 rfl ?_; first | (refine s_call Try.func6 (by kernel_rfl) rfl rfl rfl rfl rfl rfl (fun w hL => szl (szSpotS_any v1 l1 1048576 _ (hl1.below hL.toBelow) (by decide) (by decide)) hn1) ?_) | (refine s_call Try.func6 (by kernel_rfl) rfl rfl rfl rfl rfl rfl (fun w hL => szg (szSpotS_any v2 l2 (1048576 - l1.length) _ (hl2.below hL.toBelow) (by omega) (by omega)) hn2) ?_))
      | (refine s_k 14 rfl ?_; refine s_val rfl rfl rfl (r_not rfl rfl) ?_)
      | (refine s_k 2 rfl ?_; first | refine s_val rfl rfl rfl (r_pick1 rfl rfl zTr rfl) ?_ | refine s_val rfl rfl rfl (r_pick0 rfl rfl zTr rfl) ?_)
      | (refine s_k 4 rfl ?_; first | refine s_boxA rfl rfl rfl rfl rfl fun blk => ?_ | refine s_box1 rfl rfl rfl rfl rfl rfl fun blk => ?_)
      | (refine s_k 34 rfl ?_; refine s_val rfl rfl rfl (r_extractL rfl rfl rfl) ?_)
      | refine s_nil ?_)
      | (refine c_g ?_; first | refine c_seq ?_ | refine c_region ?_ | (refine c_gc ?_; first | refine c_cond1 rfl zTr ?_ | refine c_cond0 rfl zTr ?_ | refine z_condd1 rfl ?_ | refine z_condd0 rfl ?_ | refine z_conddn1 rfl ?_ | refine z_conddn0 rfl ?_ | refine c_condd rfl (fun hc => ?_) (fun hc => ?_) | refine c_conddn rfl (fun hc => ?_) (fun hc => ?_) | refine c_condn rfl (fun hc => ?_) (fun hc => ?_) | refine c_cond rfl (fun hc => ?_) (fun hc => ?_)) | refine c_block ?_ | refine c_skip ?_ | refine c_exit ?_ | refine c_ret ?_)
      | (refine e_g ?_; first | refine e_then ?_ | refine e_blkn ?_ | refine e_thenx ?_ | refine e_thenr ?_ | refine e_blkr ?_ | refine e_blkx ?_ | refine e_blky rfl ?_)
      | (refine e_ret1 (by simp) rfl (re_tmp rfl) fun w hL => ⟨rfl, hL.toBelow⟩))
  case pos =>
    have hm1 : l1.length ≤ 1048576 := by omega
    have hm2 : l2.length ≤ 1048576 := by omega
    have hm12 : l1.length + l2.length ≤ 1048576 := by omega
    obtain ⟨A1, cap1, rfl, _, _, hS1⟩ := hl1.open
    obtain ⟨A2, cap2, rfl, _, _, hS2⟩ := hl2.open
    rw [List.length_map] at hl1 hl2 ⊢
    rw [List.length_map]
    by_cases h0 : ptC p0 l1 l2 = 0
    case pos =>
      have hspec := fun (w : World) ga na capa gb nb capb cura curb hAa hga hAb hgb => specWays_ok p0 c0 l1 l2 ga na capa gb nb capb cura curb w hp0 hAa hga hAb hgb hm12 ho1 ho2 h0
      have himpl := fun (w : World) ga na capa gb nb capb cura curb hAa hga hAb hgb => implWays_ok p0 c0 l1 l2 ga na capa gb nb capb cura curb w hp0 hAa hga hAb hgb hm12 ho1 ho2 h0
      obtain ⟨hc0, hno⟩ := ptC_0 h0
      obtain ⟨hv, hin⟩ := cellC_0 hc0
      obtain ⟨hr1, hr2, hr3⟩ := waR_size hv hp0.u16 (fun c hc => hin c (List.mem_append_left l2 hc)) (fun c hc => hin c (List.mem_append_right l1 hc)) hno
      generalize waR p0 l1 l2 = R at *
      have hR1 : R.length ≤ 1048576 := by omega
      have hR2 : ∀ s ∈ R, s.length ≤ 1048576 := fun s hs => by have := hr2 s hs; omega
      have hN1 := toN_le R R.length
      have hN0 : 1 ≤ toN R R.length := by unfold toN; omega
      refine enter3 Try.func4 rfl rfl rfl (Own.start w) ?_
      repeat' (first
        | (refine s_g ?_; first
      | (refine s_gd rfl ?_; first | refine s_gd1 rfl rfl zTr ?_ | refine s_gd0 rfl rfl rfl zTr ?_ | refine s_gd00 rfl rfl zTr ?_ | refine s_gdu rfl rfl rfl ?_ | refine s_gp1 rfl rfl rfl (fun hc => ?_) (fun hc => ?_) | refine s_gp0 rfl rfl rfl (fun hc => ?_) (fun hc => ?_) | refine s_gnp1 rfl rfl rfl (fun hc => ?_) (fun hc => ?_) | refine s_gnp0 rfl rfl rfl (fun hc => ?_) (fun hc => ?_) | refine s_gb1 rfl rfl rfl (fun hc => ?_) (fun hc => ?_) | refine s_gb0 rfl rfl rfl (fun hc => ?_) (fun hc => ?_) | refine s_gnb1 rfl rfl rfl (fun hc => ?_) (fun hc => ?_) | refine s_gnb0 rfl rfl rfl (fun hc => ?_) (fun hc => ?_))
      | (refine s_k 0 rfl ?_; refine s_val rfl rfl rfl (r_move rfl rfl) ?_)
      | (refine s_k 8 rfl ?_; first | (refine' s_val rfl rfl rfl (r_ldv rfl rfl ?qm ?qv) ?_; (case qm => (exact zMm)); (case qv => (exact zLe))) | (refine' s_val rfl rfl rfl (r_ldo rfl rfl ?qw (by simp) ?qv) ?_; (case qw => assumption); (case qv => (exact zLe))))
      | (refine s_k 1 rfl ?_; refine s_val rfl rfl rfl (r_assign rfl rfl) ?_)
      | (refine s_k 13 rfl ?_; first | refine s_val rfl rfl rfl (r_lss rfl rfl rfl) ?_ | refine s_val rfl rfl rfl (r_neq rfl rfl rfl) ?_)
      | (refine s_k 35 rfl ?_; first | (refine s_call Try.func6 (by kernel_rfl) rfl rfl rfl rfl rfl rfl (fun w hL => szl (szSpotS_any _ l1 1048576 _ (hl1.below hL.toBelow) (by decide) (by decide)) hn1) ?_) | (refine s_call Try.func6 (by kernel_rfl) rfl rfl rfl rfl rfl rfl (fun w hL => szl (szSpotS_any _ l2 (1048576 - l1.length) _ (hl2.below hL.toBelow) (by omega) (by omega)) hn2) ?_) | (refine s_call Try.func8 (by kernel_rfl) rfl rfl rfl rfl rfl rfl (fun w hL => toPasture_any p0 c0 _ hp0) ?_) | (refine s_call Try.func15 (by kernel_rfl) rfl rfl rfl rfl rfl rfl (fun w hL => eqSpotSS_same _ _ R w (itSS hApo hIpo (hL.at_ m0) (fun i hi => hL.at_ (by simp only [List.mem_cons, List.mem_append, itR_mem hi, or_true, true_or]))) (itSS hAs hIs (hL.at_ m3) (fun i hi => hL.at_ (by simp only [List.mem_cons, List.mem_append, itR_mem hi, or_true, true_or]))) hR1 hR2) ?_) | (refine s_call Try.func15 (by kernel_rfl) rfl rfl rfl rfl rfl rfl (fun w hL => eqSpotSS_same _ _ R w (itSS hApo hIpo (hL.at_ m2) (fun i hi => hL.at_ (by simp only [List.mem_cons, List.mem_append, itR_mem hi, or_true, true_or]))) (itSS hAs hIs (hL.at_ m5) (fun i hi => hL.at_ (by simp only [List.mem_cons, List.mem_append, itR_mem hi, or_true, true_or]))) hR1 hR2) ?_) | (refine s_call Try.func15 (by kernel_rfl) rfl rfl rfl rfl rfl rfl (fun w hL => eqSpotSS_same _ _ R w (itSS hAu hIu (hL.at_ m0) (fun i hi => hL.at_ (by simp only [List.mem_cons, List.mem_append, itR_mem hi, or_true, true_or]))) (itSS hAs hIs (hL.at_ m8) (fun i hi => hL.at_ (by simp only [List.mem_cons, List.mem_append, itR_mem hi, or_true, true_or]))) hR1 hR2) ?_) | (refine s_call Try.func12 (by kernel_rfl) rfl rfl rfl rfl rfl rfl (fun w hL => eqSpotS_same _ _ l1 _ (hA1p.toSl (lenSp l1) (by omega) (hL.at_ m3)) (hA1.toSl (lenSp l1) (by omega) (hL.at_ m0)) hm1) ?_) | (refine s_call Try.func12 (by kernel_rfl) rfl rfl rfl rfl rfl rfl (fun w hL => eqSpotS_same _ _ l2 _ (hA2p.toSl (lenSp l2) (by omega) (hL.at_ m3)) (hA2.toSl (lenSp l2) (by omega) (hL.at_ m0)) hm2) ?_) | (refine s_call Try.func18 (by kernel_rfl) rfl rfl rfl rfl rfl rfl (fun w hL => heldSS_any R It It' _ _ _ _ w hApo hIpo hMpo (hL.at_ m2) (fun i hi => hL.at_ (by simp only [List.mem_cons, List.mem_append, itR_mem hi, or_true, true_or])) hR1 hr3) ?_) | (refine s_call Try.func18 (by kernel_rfl) rfl rfl rfl rfl rfl rfl (fun w hL => heldSS_any R It It' _ _ _ _ w hApo hIpo hMpo (hL.at_ m5) (fun i hi => hL.at_ (by simp only [List.mem_cons, List.mem_append, itR_mem hi, or_true, true_or])) hR1 hr3) ?_) | (refine s_callN Try.func9 (by kernel_rfl) rfl rfl rfl rfl rfl rfl (fun w hL => toSpotS_new l1 A1 cap1 w (hS1.at_ hL) hm1) fun g k cap cur hA => ?_; obtain rfl := hA.cnt; (try have hA1p := hA1); have hA1 := hA) | (refine s_callN Try.func9 (by kernel_rfl) rfl rfl rfl rfl rfl rfl (fun w hL => toSpotS_new l2 A2 cap2 w (hS2.at_ hL) hm2) fun g k cap cur hA => ?_; obtain rfl := hA.cnt; (try have hA2p := hA2); have hA2 := hA) | (refine s_callSS2 (S := R) Try.func13 (by kernel_rfl) rfl rfl rfl rfl rfl rfl (fun w hL => hspec w _ _ _ _ _ _ _ _ hA1 (hL.at_ m1) hA2 (hL.at_ m0)) fun gs caps curs Is hAs hIs => ?_; simp only [List.cons_append, List.nil_append, List.append_assoc]) | (have hq := hApo; refine s_callSS2 (S := R) Try.func14 (by kernel_rfl) rfl rfl rfl rfl rfl rfl (fun w hL => himpl w _ _ _ _ _ _ _ _ hA1 (hL.at_ m1) hA2 (hL.at_ m0)) fun gu capu curu Iu hAu hIu => ?_; simp only [List.cons_append, List.nil_append, List.append_assoc]) | (refine s_callSS2 (S := R) Try.func14 (by kernel_rfl) rfl rfl rfl rfl rfl rfl (fun w hL => himpl w _ _ _ _ _ _ _ _ hA1 (hL.at_ m1) hA2 (hL.at_ m0)) fun gt capt curt It hApo hIpo => ?_; simp only [List.cons_append, List.nil_append, List.append_assoc]) | (simp only [← List.cons_append, ← List.append_assoc]; refine s_markSS Try.func17 (by kernel_rfl) rfl rfl rfl rfl rfl rfl hApo hIpo m2 hR1 hr3 fun It' hMpo => ?_; simp only [List.cons_append, List.nil_append, List.append_assoc]) | (refine s_callM4 Try.func16 (by kernel_rfl) rfl rfl rfl rfl rfl rfl (fun w hL hg => markSpotS_z _ _ _ _ _ w (by omega) (by omega) hA1p.fit hg hm1) fun cs hp => ?_) | (refine s_callM3 Try.func16 (by kernel_rfl) rfl rfl rfl rfl rfl rfl (fun w hL hg => markSpotS_z _ _ _ _ _ w (by omega) (by omega) hA2p.fit hg hm2) fun cs hp => ?_))
      | (refine s_k 14 rfl ?_; refine s_val rfl rfl rfl (r_not rfl rfl) ?_)
      | (refine s_k 2 rfl ?_; first | refine s_val rfl rfl rfl (r_pick1 rfl rfl zTr rfl) ?_ | refine s_val rfl rfl rfl (r_pick0 rfl rfl zTr rfl) ?_)
      | (refine s_k 4 rfl ?_; first | refine s_boxA rfl rfl rfl rfl rfl fun blk => ?_ | refine s_box1 rfl rfl rfl rfl rfl rfl fun blk => ?_)
      | (refine s_k 34 rfl ?_; refine s_val rfl rfl rfl (r_extractL rfl rfl rfl) ?_)
      | refine s_nil ?_)
        | (refine c_g ?_; first | refine c_seq ?_ | refine c_region ?_ | (refine c_gc ?_; first | refine c_cond1 rfl zTr ?_ | refine c_cond0 rfl zTr ?_ | refine z_condd1 rfl ?_ | refine z_condd0 rfl ?_ | refine z_conddn1 rfl ?_ | refine z_conddn0 rfl ?_ | refine c_condd rfl (fun hc => ?_) (fun hc => ?_) | refine c_conddn rfl (fun hc => ?_) (fun hc => ?_) | refine c_condn rfl (fun hc => ?_) (fun hc => ?_) | refine c_cond rfl (fun hc => ?_) (fun hc => ?_)) | refine c_block ?_ | refine c_skip ?_ | refine c_exit ?_ | refine c_ret ?_)
        | (refine e_g ?_; first | refine e_then ?_ | refine e_blkn ?_ | refine e_thenx ?_ | refine e_thenr ?_ | refine e_blkr ?_ | refine e_blkx ?_ | refine e_blky rfl ?_)
        | (refine e_ret1 (by simp) rfl (re_tmp rfl) fun w hL => ⟨rfl, hL.toBelow⟩))
    case neg =>
      have hspec := fun (w : World) ga na capa gb nb capb cura curb hAa hga hAb hgb => specWays_no p0 c0 l1 l2 ga na capa gb nb capb cura curb w hp0 hAa hga hAb hgb hm12 ho1 ho2 h0
      have himpl := fun (w : World) ga na capa gb nb capb cura curb hAa hga hAb hgb => implWays_no p0 c0 l1 l2 ga na capa gb nb capb cura curb w hp0 hAa hga hAb hgb hm12 ho1 ho2 h0
      generalize ptC p0 l1 l2 = c at *
      have e2 : c = c := rfl
      refine enter3 Try.func4 rfl rfl rfl (Own.start w) ?_
      repeat' (first
        | (refine s_g ?_; first
      | (refine s_gd rfl ?_; first | refine s_gd1 rfl rfl zTr ?_ | refine s_gd0 rfl rfl rfl zTr ?_ | refine s_gd00 rfl rfl zTr ?_ | refine s_gdu rfl rfl rfl ?_ | refine s_gp1 rfl rfl rfl (fun hc => ?_) (fun hc => ?_) | refine s_gp0 rfl rfl rfl (fun hc => ?_) (fun hc => ?_) | refine s_gnp1 rfl rfl rfl (fun hc => ?_) (fun hc => ?_) | refine s_gnp0 rfl rfl rfl (fun hc => ?_) (fun hc => ?_) | refine s_gb1 rfl rfl rfl (fun hc => ?_) (fun hc => ?_) | refine s_gb0 rfl rfl rfl (fun hc => ?_) (fun hc => ?_) | refine s_gnb1 rfl rfl rfl (fun hc => ?_) (fun hc => ?_) | refine s_gnb0 rfl rfl rfl (fun hc => ?_) (fun hc => ?_))
      | (refine s_k 0 rfl ?_; refine s_val rfl rfl rfl (r_move rfl rfl) ?_)
      | (refine s_k 8 rfl ?_; first | (refine' s_val rfl rfl rfl (r_ldv rfl rfl ?qm ?qv) ?_; (case qm => (exact zMm)); (case qv => (exact zLe))) | (refine' s_val rfl rfl rfl (r_ldo rfl rfl ?qw (by simp) ?qv) ?_; (case qw => assumption); (case qv => (exact zLe))))
      | (refine s_k 1 rfl ?_; refine s_val rfl rfl rfl (r_assign rfl rfl) ?_)
      | (refine s_k 13 rfl ?_; first | refine s_val rfl rfl rfl (r_lss rfl rfl rfl) ?_ | refine s_val rfl rfl rfl (r_neq rfl rfl rfl) ?_)
      | (refine s_k 35 rfl ?_; first | (refine s_call Try.func6 (by kernel_rfl) rfl rfl rfl rfl rfl rfl (fun w hL => szl (szSpotS_any _ l1 1048576 _ (hl1.below hL.toBelow) (by decide) (by decide)) hn1) ?_) | (refine s_call Try.func6 (by kernel_rfl) rfl rfl rfl rfl rfl rfl (fun w hL => szl (szSpotS_any _ l2 (1048576 - l1.length) _ (hl2.below hL.toBelow) (by omega) (by omega)) hn2) ?_) | (refine s_call Try.func8 (by kernel_rfl) rfl rfl rfl rfl rfl rfl (fun w hL => toPasture_any p0 c0 _ hp0) ?_) | (refine s_call Try.func14 (by kernel_rfl) rfl rfl rfl rfl rfl rfl (fun w hL => himpl w _ _ _ _ _ _ _ _ hA1 (hL.at_ m1) hA2 (hL.at_ m0)) ?_) | (refine s_call Try.func15 (by kernel_rfl) rfl rfl rfl rfl rfl rfl (fun w hL => eqSpotSS_same _ _ [] w (nilSS w) (itSS hAs hIs (hL.at_ m2) (fun i hi => hL.at_ (by simp only [List.mem_cons, List.mem_append, itR_mem hi, or_true, true_or]))) (by simp) (by simp)) ?_) | (refine s_call Try.func15 (by kernel_rfl) rfl rfl rfl rfl rfl rfl (fun w hL => eqSpotSS_same _ _ [] w (nilSS w) (itSS hAs hIs (hL.at_ m4) (fun i hi => hL.at_ (by simp only [List.mem_cons, List.mem_append, itR_mem hi, or_true, true_or]))) (by simp) (by simp)) ?_) | (refine s_call Try.func15 (by kernel_rfl) rfl rfl rfl rfl rfl rfl (fun w hL => eqSpotSS_same _ _ [] w (nilSS w) (itSS hAs hIs (hL.at_ m6) (fun i hi => hL.at_ (by simp only [List.mem_cons, List.mem_append, itR_mem hi, or_true, true_or]))) (by simp) (by simp)) ?_) | (refine s_call Try.func12 (by kernel_rfl) rfl rfl rfl rfl rfl rfl (fun w hL => eqSpotS_same _ _ l1 _ (hA1p.toSl (lenSp l1) (by omega) (hL.at_ m2)) (hA1.toSl (lenSp l1) (by omega) (hL.at_ m0)) hm1) ?_) | (refine s_call Try.func12 (by kernel_rfl) rfl rfl rfl rfl rfl rfl (fun w hL => eqSpotS_same _ _ l2 _ (hA2p.toSl (lenSp l2) (by omega) (hL.at_ m2)) (hA2.toSl (lenSp l2) (by omega) (hL.at_ m0)) hm2) ?_) | (refine s_call Try.func17 (by kernel_rfl) rfl rfl rfl rfl rfl rfl (fun w hL => markSS_nil _) ?_) | (refine s_call Try.func18 (by kernel_rfl) rfl rfl rfl rfl rfl rfl (fun w hL => heldSS_nil _) ?_) | (refine s_callN Try.func9 (by kernel_rfl) rfl rfl rfl rfl rfl rfl (fun w hL => toSpotS_new l1 A1 cap1 w (hS1.at_ hL) hm1) fun g k cap cur hA => ?_; obtain rfl := hA.cnt; (try have hA1p := hA1); have hA1 := hA) | (refine s_callN Try.func9 (by kernel_rfl) rfl rfl rfl rfl rfl rfl (fun w hL => toSpotS_new l2 A2 cap2 w (hS2.at_ hL) hm2) fun g k cap cur hA => ?_; obtain rfl := hA.cnt; (try have hA2p := hA2); have hA2 := hA) | (refine s_callSS2 (S := []) Try.func13 (by kernel_rfl) rfl rfl rfl rfl rfl rfl (fun w hL => hspec w _ _ _ _ _ _ _ _ hA1 (hL.at_ m1) hA2 (hL.at_ m0)) fun gs caps curs Is hAs hIs => ?_; simp only [List.cons_append, List.nil_append, List.append_assoc]) | (refine s_callM3 Try.func16 (by kernel_rfl) rfl rfl rfl rfl rfl rfl (fun w hL hg => markSpotS_z _ _ _ _ _ w (by omega) (by omega) hA1p.fit hg hm1) fun cs hp => ?_) | (refine s_callM2 Try.func16 (by kernel_rfl) rfl rfl rfl rfl rfl rfl (fun w hL hg => markSpotS_z _ _ _ _ _ w (by omega) (by omega) hA2p.fit hg hm2) fun cs hp => ?_))
      | (refine s_k 14 rfl ?_; refine s_val rfl rfl rfl (r_not rfl rfl) ?_)
      | (refine s_k 2 rfl ?_; first | refine s_val rfl rfl rfl (r_pick1 rfl rfl zTr rfl) ?_ | refine s_val rfl rfl rfl (r_pick0 rfl rfl zTr rfl) ?_)
      | (refine s_k 4 rfl ?_; first | refine s_boxA rfl rfl rfl rfl rfl fun blk => ?_ | refine s_box1 rfl rfl rfl rfl rfl rfl fun blk => ?_)
      | (refine s_k 34 rfl ?_; refine s_val rfl rfl rfl (r_extractL rfl rfl rfl) ?_)
      | refine s_nil ?_)
        | (refine c_g ?_; first | refine c_seq ?_ | refine c_region ?_ | (refine c_gc ?_; first | refine c_cond1 rfl zTr ?_ | refine c_cond0 rfl zTr ?_ | refine z_condd1 rfl ?_ | refine z_condd0 rfl ?_ | refine z_conddn1 rfl ?_ | refine z_conddn0 rfl ?_ | refine c_condd rfl (fun hc => ?_) (fun hc => ?_) | refine c_conddn rfl (fun hc => ?_) (fun hc => ?_) | refine c_condn rfl (fun hc => ?_) (fun hc => ?_) | refine c_cond rfl (fun hc => ?_) (fun hc => ?_)) | refine c_block ?_ | refine c_skip ?_ | refine c_exit ?_ | refine c_ret ?_)
        | (refine e_g ?_; first | refine e_then ?_ | refine e_blkn ?_ | refine e_thenx ?_ | refine e_thenr ?_ | refine e_blkr ?_ | refine e_blkx ?_ | refine e_blky rfl ?_)
        | (refine e_ret1 (by simp) rfl (re_tmp rfl) fun w hL => ⟨rfl, hL.toBelow⟩))
namespace FnExactWaysApartRow
open Go.ChangeShapes Go.WideShapes Go.ChangeAt Go.RowKit
theorem own : ownKnob Try.prog.godebug = none := by kernel_rfl
theorem laidOut : laidOutB Try.prog = true := by kernel_rfl
set_option maxRecDepth 100000 in
set_option maxHeartbeats 1000000 in
theorem lifted (os : Os) (started : os.Started) (H : Type) (enc : TypeId × Value → H) :
    ReturnsInHanded {} Try.checked os 4 .any (Rows.fnExactWaysApartSpec.pre6 enc Try.prog Try.f4 Rows.fnExactWaysApartRow.domain false) (Rows.fnExactWaysApartSpec.post enc Try.prog Try.f4 false true false false) := by
  refine returnsInHanded_of_change (C := Try.checked) own started (by kernel_rfl) Try.func4
    (ChangeSpec.witness6 (enc := enc) (C := Try.checked) false ⟨#[], #[.agg zP, .slice none 0 0, .slice none 0 0], []⟩ 8 (by kernel_rfl) (by kernel_rfl) (by kernel_rfl) (by kernel_rfl)) ?_
  intro W base args ds gs before hval0 hW hcnd _
  have hval : ∀ (j : Nat) t v, Try.f4.params[j]? = some t → args[j]? = some v → Value.okWide Try.prog W .any base t v := hval0
  have hW' := hW
  obtain ⟨p, q, hA0, hV, rfl, hfz, hnd⟩ := hW
  have hA : DataW.TrodAll enc Try.prog W 0 (fun _ => true) true Try.f4.params.toList args.toList ds p := hA0
  rw [Try.params4] at hA hval
  obtain ⟨v0, vs0, d0, ds0, p0, q0, hargs, rfl, rfl, h0, r0⟩ := trodAll_cons hA
  obtain ⟨v1, vs1, d1, ds1, p1, q1, rfl, rfl, rfl, h1, r1⟩ := trodAll_cons r0
  obtain ⟨v2, vs2, d2, ds2, p2, q2, rfl, rfl, rfl, h2, r2⟩ := trodAll_cons r1
  obtain ⟨rfl, rfl, rfl⟩ := trodAll_nil r2
  obtain rfl : args = #[v0, v1, v2] := by cases args; simp_all
  obtain ⟨rfl, rfl⟩ := trodVars_none hV
  have k0 := h0
  have lt0 : ∀ x ∈ p0, x.block < W.heap.size := by obtain ⟨m, hm⟩ := k0; exact DataW.trod_lt m _ _ _ hm
  have k1 := h1
  have lt1 : ∀ x ∈ p1, x.block < W.heap.size := by obtain ⟨m, hm⟩ := k1; exact DataW.trod_lt m _ _ _ hm
  have k2 := h2
  have lt2 : ∀ x ∈ p2, x.block < W.heap.size := by obtain ⟨m, hm⟩ := k2; exact DataW.trod_lt m _ _ _ hm
  obtain ⟨c0, rfl, hs0, hf0⟩ := open_flat (n := 5) (ks := pasK) (by kernel_rfl) (by kernel_rfl) (by kernel_rfl) (hval 0 _ v0 rfl rfl) h0
  obtain ⟨p0', hp0⟩ := pv_of_flat hs0 hf0
  obtain ⟨xs1, hl1, hf1⟩ := open_flat_slice (n := 5) (ks := spK) Try.underlying30 (by kernel_rfl) (by kernel_rfl) (by decide) (hval 1 _ v1 rfl rfl) h1
  obtain ⟨l1, rfl, ho1⟩ := list_of_cells (f := Sp.cells) (p := Sp.ok) xs1 (fun c hc => by
    obtain ⟨hcl, _⟩ := sl_elem hl1 c hc
    exact sp_of_flat hcl (hf1 c hc))
  obtain ⟨xs2, hl2, hf2⟩ := open_flat_slice (n := 5) (ks := spK) Try.underlying30 (by kernel_rfl) (by kernel_rfl) (by decide) (hval 2 _ v2 rfl rfl) h2
  obtain ⟨l2, rfl, ho2⟩ := list_of_cells (f := Sp.cells) (p := Sp.ok) xs2 (fun c hc => by
    obtain ⟨hcl, _⟩ := sl_elem hl2 c hc
    exact sp_of_flat hcl (hf2 c hc))
  clear hA0 hval0
  refine (FnExactWaysApart_walk p0' c0 v1 l1 v2 l2 W hp0 hl1 ho1 hl2 ho2).mono fun e W' ⟨he, bel⟩ => ?_
  subst he
  exact ⟨_, rfl, _, _, _, [], _, [], hW', trodAll_mk1 (shut_bool Try.underlying4 _), (trodAll_cons_mk (Below.trod laidOut (by kernel_rfl) (of_decide_eq_true (by kernel_rfl)) k0 bel lt0) (trodAll_cons_mk (Below.trod laidOut (by kernel_rfl) (of_decide_eq_true (by kernel_rfl)) k1 bel lt1) (trodAll_cons_mk (Below.trod laidOut (by kernel_rfl) (of_decide_eq_true (by kernel_rfl)) k2 bel lt2) trodAll_mk0))), rfl, bel.frame _, fun h => by cases h⟩
theorem closed : joinedFacts Try.prog 4 Try.f4 Rows.fnExactWaysApartSpec Rows.fnExactWaysApartRow = true := by
  unfold joinedFacts
  rw [prog_mayEnter, prog_lifts, prog_make]
  show (_ : Bool) = true
  kernel_rfl
theorem over : Rows.fnExactWaysApartRow.holds Try.pinned (OpenSpec.ofChange Rows.fnExactWaysApartSpec) :=
  OpenClaim.holds_of_wide 4 Try.f4 rfl rfl rfl rfl rfl rfl rfl ⟨rfl, rfl, rfl, rfl, rfl⟩ rfl rfl rfl rfl rfl (by kernel_rfl) Try.func4 closed
    (of_decide_eq_true (by kernel_rfl)) (by unfold Func.isWrapper; first | (rw [if_pos (by decide +kernel)]; kernel_rfl) | (rw [if_neg (by decide +kernel)]; exact ⟨rfl, rfl⟩))
    (fun os started H enc _ => lifted os started H enc)
end FnExactWaysApartRow
theorem fnExactWaysApart_holds : Rows.FnExactWaysApartSaid := FnExactWaysApartRow.over
#print axioms fnExactWaysApart_holds
end Go.Proofs.Ytnafnhpajkhgkaa
