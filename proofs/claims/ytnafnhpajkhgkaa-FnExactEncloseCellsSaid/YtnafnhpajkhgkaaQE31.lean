import Derived.Test.YtnafnhpajkhgkaaQE04
import Derived.Test.YtnafnhpajkhgkaaQE28
import Derived.Test.YtnafnhpajkhgkaaQE29
import Derived.Test.YtnafnhpajkhgkaaQE30
/- The open sides of cells: the program's. No condition but a length of at most 2^20. -/
namespace Go.Proofs.Ytnafnhpajkhgkaa
set_option linter.unusedVariables false
set_option linter.unusedSimpArgs false
open Go.RowKit Mem Wk Go.Sort

namespace Wk
variable {P : Program} {n : Nat} {O : List Nat} {w0 : World} {l : List (Nat × Value)} {N L : List (Nat × TypeId × Array Value)} {Q : Exit → Act → World → Prop} {ops : Array Oper} {o : Oper} {rest : List Oper} {kk d : Nat} {v : Value} {x y : Operand} {Nok : List (Nat × TypeId × Array Value) → Prop} {pl : Nat → CalmE.Plan (List (Nat × TypeId × Array Value))}
theorem c_drawZo {id : Nat} {r : List Oper} (bs : List Bool) (Nok : List (Nat × TypeId × Array Value) → Prop) (pl : List (CalmE.Plan (List (Nat × TypeId × Array Value)))) (hm : P.follows .mixedOrders = true) (hB : Region.lexB .any r.toArray = true) (hst : CalmE.effB .any r.toArray bs = true) (hag : CalmE.Agree pl bs) (hok : Nok [])
    (h : Z P r.toArray Q n O w0 Nok (fun i => pl.getD i (.inl undef)) r 0 l [] L) : C P Q n O w0 (.region id r.toArray true) l L := c_drawZ bs Nok [] L pl hm hB hst hag hok (List.Perm.refl _) h
/-- a callee that makes a slice -/
theorem z_new {f : FuncId} {fn : Func} {xs : Array Operand} {ts : Array TypeId} {vs : List Value} {T : TypeId} {sz m : Nat} {ys : List Value} (hf : P.funcs[f]? = some fn) (hname : (fn.name == "runtime.NumGoroutine") = false) (hb : fn.body.isSome = true) (hg : o.guard = none) (hd : o.dst = some d) (hn : Nat.blt d n = true)
    (hop : o.op = .call { callee := .value (.func f), args := xs, argTypes := ts }) (hargs : evs l xs.toList = some vs) (hsz : 0 < sz) (hlen : ys.length = m * sz) (hmx : m ≤ maxLen) (hok : ∀ N, Nok N) (hc : ∀ w, Kn O w0 w ([] ++ L) → Calls P f vs.toArray w (NewS T sz ys w))
    (hp : pl kk = .inr (fun v N' => ∃ i : Nat × Nat × Array Value, Ap sz m i.2.1 i.2.2 ys ∧ v = .slice (some ⟨i.1, 0, none⟩) m i.2.1 ∧ N' = [(i.1, T, i.2.2)]))
    (h : ∀ g cap cur, Ap sz m cap cur ys → Z P ops Q n O w0 Nok pl rest (kk + 1) ((d, .slice (some ⟨g, 0, none⟩) m cap) :: l) [(g, T, cur)] L) : Z P ops Q n O w0 Nok pl (o :: rest) kk l [] L :=
  z_write (fun i : Nat × Nat × Array Value => Ap sz m i.2.1 i.2.2 ys) (fun i => .slice (some ⟨i.1, 0, none⟩) m i.2.1) (fun i => [(i.1, T, i.2.2)]) hf hname hb hg hd hn hop hargs
    (fun w hw => (hc w hw).mono fun e w' ⟨g, k, cap, cur, he, hA, hge, hat, hb⟩ => by
      have hk : k = m := by have h1 := hA.len; rw [hlen] at h1; exact (Nat.eq_of_mul_eq_mul_right hsz h1).symm
      subst hk
      exact ⟨(g, cap, cur), hA, he, Own.add hw hb hge hat⟩)
    ⟨(0, m, ys.toArray), ⟨hlen, Nat.le_refl _, hmx, by simpa using hlen, by rw [← hlen]; exact List.take_length⟩⟩ (fun _ _ => hok _) hp (fun i hi => h i.1 i.2.1 i.2.2 hi)
/-- a callee that writes what was made, and gives it back -/
theorem z_upd {f : FuncId} {fn : Func} {xs : Array Operand} {ts : Array TypeId} {vs : List Value} {T : TypeId} {sz m g cap : Nat} {cur : Array Value} {ys : List Value} (hf : P.funcs[f]? = some fn) (hname : (fn.name == "runtime.NumGoroutine") = false) (hb : fn.body.isSome = true) (hg : o.guard = none) (hd : o.dst = some d) (hn : Nat.blt d n = true)
    (hop : o.op = .call { callee := .value (.func f), args := xs, argTypes := ts }) (hargs : evs l xs.toList = some vs) (hlen : ys.length = m * sz) (hmx : m ≤ maxLen) (hok : ∀ N, Nok N)
    (hc : ∀ w, Kn O w0 w ([(g, T, cur)] ++ L) → w.heap[g]? = some (.cells cur T (0, 0)) → Calls P f vs.toArray w fun e w' => e = .returned (.slice (some ⟨g, 0, none⟩) m cap) ∧ ∃ cs', Ap sz m cap cs' ys ∧ Upd w w' g T cs')
    (hp : pl kk = .inr (fun v N' => ∃ i : Nat × Nat × Array Value, Ap sz m i.2.1 i.2.2 ys ∧ v = .slice (some ⟨i.1, 0, none⟩) m i.2.1 ∧ N' = [(i.1, T, i.2.2)]))
    (h : ∀ g cap cur, Ap sz m cap cur ys → Z P ops Q n O w0 Nok pl rest (kk + 1) ((d, .slice (some ⟨g, 0, none⟩) m cap) :: l) [(g, T, cur)] L) : Z P ops Q n O w0 Nok pl (o :: rest) kk l [(g, T, cur)] L :=
  z_write (fun i : Nat × Nat × Array Value => Ap sz m i.2.1 i.2.2 ys) (fun i => .slice (some ⟨i.1, 0, none⟩) m i.2.1) (fun i => [(i.1, T, i.2.2)]) hf hname hb hg hd hn hop hargs
    (fun w hw => (hc w hw (hw.has _ List.mem_cons_self)).mono fun e w' ⟨he, cs', hA, hu⟩ => ⟨(g, cap, cs'), hA, he, Kn.upd (i := 0) hw rfl hu⟩)
    ⟨(0, m, ys.toArray), ⟨hlen, Nat.le_refl _, hmx, by simpa using hlen, by rw [← hlen]; exact List.take_length⟩⟩ (fun _ _ => hok _) hp (fun i hi => h i.1 i.2.1 i.2.2 hi)
/-- what was made is assigned -/
theorem z_asg {e : TypeId} {sz g m cap : Nat} {cur : Array Value} {xs : List Value} (ho : o.op = .assign x) (hA : Ap sz m cap cur xs) (hx : ev l x = some (.slice (some ⟨g, 0, none⟩) m cap)) (hg : o.guard = none) (hd : o.dst = some d) (hdn : Nat.blt d n = true) (hok : ∀ N, Nok N)
    (hp : pl kk = .inr (fun v N' => ∃ i : Nat × Nat × Array Value, Ap sz m i.2.1 i.2.2 xs ∧ v = .slice (some ⟨i.1, 0, none⟩) m i.2.1 ∧ N' = [(i.1, e, i.2.2)]))
    (h : ∀ g' cap' cur', Ap sz m cap' cur' xs → Z P ops Q n O w0 Nok pl rest (kk + 1) ((d, .slice (some ⟨g', 0, none⟩) m cap') :: l) [(g', e, cur')] L) : Z P ops Q n O w0 Nok pl (o :: rest) kk l [(g, e, cur)] L :=
  z_eff (fun i : Nat × Nat × Array Value => Ap sz m i.2.1 i.2.2 xs) (fun i => .slice (some ⟨i.1, 0, none⟩) m i.2.1) (fun i => [(i.1, e, i.2.2)]) hg (fun a w hF hw => by
    have hr := r_assign (P := P) (O := O) (w0 := w0) (L := [(g, e, cur)] ++ L) ho hx a w hF hw
    unfold CalmE.effAt
    rw [hr]
    exact ⟨(g, cap, cur), hA, rfl, hw⟩) ⟨(g, cap, cur), hA⟩ (fun _ _ => hok _) hp (fun i hi a hF => by rw [hd]; exact h i.1 i.2.1 i.2.2 hi _ (hF.put hdn _))
end Wk
attribute [local irreducible] Calls Wk.S Wk.C Wk.E Wk.X Wk.T Wk.Z Wk.anV Wk.orV Wk.andV Wk.shlV Wk.shrV Calm.wpLex CalmE.wpLex cpF ordL soB soL opnL
def SrtH (L : List Hd) (n cap : Nat) (cs : Array Value) : Prop := ∃ M : List Hd, M.Perm L ∧ (M.Pairwise fun a b => ltOf cmH b a = false) ∧ Ap 3 n cap cs (flH M)
theorem sortH_m (L : List Hd) (g n cap : Nat) (cur : Array Value) (w : World) (hA : Ap 3 n cap cur (flH L)) (hg : w.heap[g]? = some (.cells cur 66 (0, 0))) (hn : L.length ≤ 1048576) (hin : ∀ s ∈ L, hdI s) :
    Calls Try.prog 67 #[.slice (some ⟨g, 0, none⟩) n cap, .func (.func 68) #[] #[]] w fun e w' => e = .returned (.tuple #[]) ∧ ∃ cs', SrtH L n cap cs' ∧ Upd w w' g 66 cs' :=
  (sortH_any L g n cap cur w hA hg hn hin).mono fun e w' ⟨he, M, cs', h1, h2, h3, h4⟩ => ⟨he, cs', ⟨M, h1, h2, h3⟩, h4⟩
theorem soL_hdI {p : Nat → Int} {L : List Sp} (hL : ∀ s ∈ L, isC (p 0) (p 1) s.x s.y = true) {h : Hd} (hm : h ∈ soL p L) : hdI h := by
  have hin : ∀ s ∈ L, inR s := fun s h => isC_range (hL s h)
  unfold soL at hm
  rw [List.mem_flatMap] at hm
  obtain ⟨s, hs, hh⟩ := hm
  rw [ordL_mem hin] at hs
  obtain ⟨k, hk, hc, _, rfl⟩ := soB_mem.1 hh
  have h1 := hin s hs
  exact hd_range ⟨h1.1, h1.2.1⟩ h1.2.2 (isC_range hc)
theorem soL_len (p : Nat → Int) (L : List Sp) : (soL p L).length ≤ 400 := by
  have e : soL p L = soT p L (ordL L) (ordL L).length := by unfold soL soT; rw [List.take_length]
  rw [e]
  have := soT_len p L (ordL L) (ordL L).length
  have := ordL_len L
  omega
theorem flH_len (l : List Hd) : (flH l).length = l.length * 3 := by
  unfold flH
  rw [flat_len (sz := 3) (l.map Hd.cells) (fun c hc => by obtain ⟨s, _, rfl⟩ := List.mem_map.1 hc; rfl), List.length_map]
set_option maxRecDepth 100000 in
set_option maxHeartbeats 1600000 in
theorem openSides_any (p : Nat → Int) (cs : Array Value) (L : List Sp) (b off capL : Nat) (w : World) (hp : Pv p cs) (hv : validP p = true) (hS : SlA [] w 2 (some ⟨b, off, none⟩) (L.map Sp.cells)) (hn : L.length ≤ 1048576) (hL : ∀ s ∈ L, isC (p 0) (p 1) s.x s.y = true) :
    Calls Try.prog 28 #[.agg cs, .slice (some ⟨b, off, none⟩) L.length capL] w (NewS 66 3 (flH (opnL p L)) w) := by
  have hsz := hp.size
  have hin : ∀ s ∈ L, inR s := fun s h => isC_range (hL s h)
  have hso := fun w hS => sidesOf_any p cs L b off capL w hp hS hn hin
  have hsl := soL_len p L
  have hsh : ∀ h ∈ soL p L, hdI h := fun h hm => soL_hdI hL hm
  have hop : ∀ M : List Hd, M.Perm ((soL p L).filter fun h => !stP p h) → (M.Pairwise fun a b => ltOf cmH b a = false) → M = opnL p L := fun M h1 h2 => opn_of hv hL h1 h2
  generalize soL p L = SL at *
  generalize opnL p L = R at *
  have hDl : (SL.filter fun h => !stP p h).length ≤ 400 := Nat.le_trans (List.length_filter_le _ _) hsl
  have hDh : ∀ h ∈ (SL.filter fun h => !stP p h), hdI h := fun h hm => hsh h (List.mem_filter.1 hm).1
  have hdel := fun g n cap cur w hA hg => delHb_any SL 66 _ [.agg cs] [] (stP p) g n cap cur w hA hg (by omega) Try.func66 (by kernel_rfl) rfl (fun s hs w' _ => stands_any p cs s.x s.y s.s w' hp (hsh s hs).1 (hsh s hs).2)
  generalize hD : (SL.filter fun h => !stP p h) = D at *
  refine enter2 Try.func28 rfl rfl rfl (Own.start w) ?_
  repeat' (first
    | (refine s_g ?_; first
      | (refine s_k 0 rfl ?_; refine s_val rfl rfl rfl (r_move rfl rfl) ?_)
      | (refine s_k 8 rfl ?_; first | (refine' s_val rfl rfl rfl (r_ldv rfl rfl ?qm ?qv) ?_; (case qm => (exact zMm)); (case qv => (exact zLe))) | (refine' s_val rfl rfl rfl (r_ldo rfl rfl ?qw (by simp) ?qv) ?_; (case qw => assumption); (case qv => (exact zLe))))
      | (refine s_k 1 rfl ?_; refine s_val rfl rfl rfl (r_assign rfl rfl) ?_)
      | (refine s_k 4 rfl ?_; first | refine s_boxA rfl rfl rfl rfl rfl fun blk => ?_ | refine s_box1 rfl rfl rfl rfl rfl rfl fun blk => ?_)
      | (refine s_k 18 rfl ?_; refine s_val rfl rfl rfl (r_func rfl rfl rfl) ?_)
      | refine s_nil ?_)
    | (refine c_g ?_; first | refine c_seq ?_ | refine c_region ?_ | (refine c_gc ?_; first | refine c_cond1 rfl zTr ?_ | refine c_cond0 rfl zTr ?_ | refine z_condd1 rfl ?_ | refine z_condd0 rfl ?_ | refine z_conddn1 rfl ?_ | refine z_conddn0 rfl ?_ | refine c_condd rfl (fun hc => ?_) (fun hc => ?_) | refine c_conddn rfl (fun hc => ?_) (fun hc => ?_) | refine c_condn rfl (fun hc => ?_) (fun hc => ?_) | refine c_cond rfl (fun hc => ?_) (fun hc => ?_)) | refine c_block ?_ | refine c_skip ?_ | refine c_exit ?_ | refine c_ret ?_)
    | (refine e_g ?_; first | refine e_then ?_ | refine e_blkn ?_ | refine e_thenx ?_ | refine e_thenr ?_ | refine e_blkr ?_ | refine e_blkx ?_ | refine e_blky rfl ?_))
  refine' c_drawZo (id := 1) [false, false, true, false, false, true, true] (fun _ => True) [(Sum.inl _ : CalmE.Plan (List (Nat × TypeId × Array Value))), (Sum.inl _ : CalmE.Plan (List (Nat × TypeId × Array Value))), (Sum.inr _ : CalmE.Plan (List (Nat × TypeId × Array Value))), (Sum.inl _ : CalmE.Plan (List (Nat × TypeId × Array Value))), (Sum.inl _ : CalmE.Plan (List (Nat × TypeId × Array Value))), (Sum.inr _ : CalmE.Plan (List (Nat × TypeId × Array Value))), (Sum.inr _ : CalmE.Plan (List (Nat × TypeId × Array Value)))] (by kernel_rfl) (by kernel_rfl) (by kernel_rfl) (by simp only [CalmE.Agree, and_self, true_and, and_true]) trivial ?zmain
  case zmain =>
    refine' z_val rfl rfl rfl ?hr ?hp ?_
    case hr => exact fun N hN => r_ldv rfl rfl (List.mem_append_right _ m0) (ldvW tb rfl hsz)
    case hp => exact rfl
    refine' z_val rfl rfl rfl ?hr ?hp ?_
    case hr => exact fun N hN => r_move rfl rfl
    case hp => exact rfl
    refine' z_new (m := SL.length) Try.func65 (by kernel_rfl) rfl rfl rfl rfl rfl rfl (by omega) (flH_len SL) (by unfold maxLen; omega) (fun _ => trivial) (fun w hw => hso w (hS.at_ hw)) ?hp fun g1 cap1 cur1 hA1 => ?_
    case hp => exact rfl
    refine' z_val rfl rfl rfl ?hr ?hp ?_
    case hr => exact fun N hN => r_ldv rfl rfl (List.mem_append_right _ m0) (ldvW tb rfl hsz)
    case hp => exact rfl
    refine' z_val rfl rfl rfl ?hr ?hp ?_
    case hr => exact fun N hN => r_func (fs := [.agg cs]) (cs := []) rfl rfl rfl
    case hp => exact rfl
    refine' z_upd (m := D.length) Try.func64 (by kernel_rfl) rfl rfl rfl rfl rfl rfl (flH_len D) (by unfold maxLen; omega) (fun _ => trivial) (fun w hw hg => hdel g1 _ cap1 cur1 w hA1 hg) ?hp fun g2 cap2 cur2 hA2 => ?_
    case hp => exact rfl
    refine' z_asg rfl hA2 rfl rfl rfl rfl (fun _ => trivial) ?hp fun g3 cap3 cur3 hA3 => ?_
    case hp => exact rfl
    refine z_nil ?_
    repeat' (first
      | (refine s_g ?_; first
      | (refine s_k 0 rfl ?_; refine s_val rfl rfl rfl (r_move rfl rfl) ?_)
      | (refine s_k 8 rfl ?_; first | (refine' s_val rfl rfl rfl (r_ldv rfl rfl ?qm ?qv) ?_; (case qm => (exact zMm)); (case qv => (exact zLe))) | (refine' s_val rfl rfl rfl (r_ldo rfl rfl ?qw (by simp) ?qv) ?_; (case qw => assumption); (case qv => (exact zLe))))
      | (refine s_k 1 rfl ?_; refine s_val rfl rfl rfl (r_assign rfl rfl) ?_)
      | (refine s_k 35 rfl ?_; (refine s_callM0 Try.func67 (by kernel_rfl) rfl rfl rfl rfl rfl rfl (fun w hL hg => sortH_m D _ _ _ _ w hA3 hg (by omega) hDh) fun cs hp => ?_))
      | (refine s_k 4 rfl ?_; first | refine s_boxA rfl rfl rfl rfl rfl fun blk => ?_ | refine s_box1 rfl rfl rfl rfl rfl rfl fun blk => ?_)
      | (refine s_k 18 rfl ?_; refine s_val rfl rfl rfl (r_func rfl rfl rfl) ?_)
      | refine s_nil ?_)
      | (refine c_g ?_; first | refine c_seq ?_ | refine c_region ?_ | (refine c_gc ?_; first | refine c_cond1 rfl zTr ?_ | refine c_cond0 rfl zTr ?_ | refine z_condd1 rfl ?_ | refine z_condd0 rfl ?_ | refine z_conddn1 rfl ?_ | refine z_conddn0 rfl ?_ | refine c_condd rfl (fun hc => ?_) (fun hc => ?_) | refine c_conddn rfl (fun hc => ?_) (fun hc => ?_) | refine c_condn rfl (fun hc => ?_) (fun hc => ?_) | refine c_cond rfl (fun hc => ?_) (fun hc => ?_)) | refine c_block ?_ | refine c_skip ?_ | refine c_exit ?_ | refine c_ret ?_)
      | (refine e_g ?_; first | refine e_then ?_ | refine e_blkn ?_ | refine e_thenx ?_ | refine e_thenr ?_ | refine e_blkr ?_ | refine e_blkx ?_ | refine e_blky rfl ?_)
      | (refine e_ret1 (by simp) rfl (re_tmp rfl) fun w hL => ?_))
    obtain ⟨M, h1, h2, h3⟩ := hp
    rw [← hop M h1 h2]
    exact NewS.of h3 hL m0
end Go.Proofs.Ytnafnhpajkhgkaa
/- The laws' copiers and comparers of spots. Slices of at most 2 to the power 20 elements. -/
namespace Go.Proofs.Ytnafnhpajkhgkaa
set_option linter.unusedVariables false
set_option linter.unusedSimpArgs false
open Go.RowKit Mem

set_option maxRecDepth 100000 in
theorem eqSpot_same (x y : Int) (w : World) :
    Calls Try.prog 33 #[.agg #[.int .i8 x, .int .i8 y], .agg #[.int .i8 x, .int .i8 y]] w fun e w' => e = .returned (.bool true) ∧ Below w.heap.size w w' := by
  have hL := Own.start w
  go_enter Try.func33, Try.ntmps33
  go_wp2_with (first
    | ((with_reducible refine gate_dst (N := 2) rfl ?_); refine wpl_box (cs := #[.int .i8 x, .int .i8 y]) hL rfl rfl rfl ?_; clear hL; intro g2 w2 hL)
    | ((with_reducible refine gate_dst (N := 3) rfl ?_); refine wpl_box (cs := #[.int .i8 x, .int .i8 y]) hL rfl rfl rfl ?_; clear hL; intro g3 w3 hL)
    | ((with_reducible refine gate_load rfl ?_); first | (refine wpl_load_0 hL rfl rfl (by kernel_rfl) rfl (by first | rfl | assumption) ?_) | (refine wpl_load_1 hL rfl rfl (by kernel_rfl) rfl (by first | rfl | assumption) ?_) | (refine wpl_load_2 hL rfl rfl (by kernel_rfl) rfl (by first | rfl | assumption) ?_) | (refine wpl_load_3 hL rfl rfl (by kernel_rfl) rfl (by first | rfl | assumption) ?_) | (refine wpl_load_4 hL rfl rfl (by kernel_rfl) rfl (by first | rfl | assumption) ?_) | (refine wpl_load_5 hL rfl rfl (by kernel_rfl) rfl (by first | rfl | assumption) ?_)))
  go_ret
  exact ⟨rfl, hL.toBelow⟩

set_option maxRecDepth 100000 in
theorem szSpotS_any (v : Value) (l : List Sp) (left : Int) (w : World) (hl : Sl w 2 v (l.map Sp.cells)) (h0 : 0 ≤ left) (h1 : left ≤ 1048576) :
    Calls Try.prog 6 #[v, .int .i64 left] w fun e w' => e = .returned (.int .i64 (if (l.length : Int) ≤ left then left - l.length else -1)) ∧ w = w' := by
  obtain ⟨A, cap, rfl, hc, hm, _⟩ := hl
  rw [List.length_map] at hc ⊢
  unfold maxLen at hm
  by_cases h : (l.length : Int) ≤ left
  · have hd : decide (left - (l.length : Int) < 0) = false := by simp; omega
    rw [if_pos h]
    go_enter Try.func6, Try.ntmps6
    go_wp2
    go_ret
    exact ⟨rfl, rfl⟩
  · have hd : decide (left - (l.length : Int) < 0) = true := by simp; omega
    rw [if_neg h]
    go_enter Try.func6, Try.ntmps6
    go_wp2
    go_ret
    exact ⟨rfl, rfl⟩

set_option maxRecDepth 100000 in
set_option maxHeartbeats 400000 in
theorem eqSpotS_same (v u : Value) (l : List Sp) (w : World) (hl : Sl w 2 v (l.map Sp.cells)) (hr : Sl w 2 u (l.map Sp.cells)) (h1 : l.length ≤ 1048576) :
    Calls Try.prog 12 #[v, u] w fun e w' => e = .returned (.bool true) ∧ Below w.heap.size w w' := by
  have hL := Own.start w
  have HS := Lib.hid hl
  have HR := Lib.hid hr
  obtain ⟨A, cap, rfl, _, _, _⟩ := hl
  obtain ⟨A', cap', rfl, _, _, _⟩ := hr
  rw [List.length_map] at HS HR ⊢
  obtain ⟨N, hN⟩ : ∃ N, l.length = N := ⟨_, rfl⟩
  have HN := Lib.hid hN
  rw [hN] at h1 HS HR ⊢
  clear hN
  go_enter Try.func12, Try.ntmps12
  go_wp2
  go_loopg [5] N (fun n i wr => ∃ (k : Nat), k ≤ N ∧ n = N - k ∧ i = .int .i64 k ∧ Own w.heap.size [] w wr [])
  case atStart => exact ⟨0, by omega, rfl, rfl, hL⟩
  case round =>
    clear hL
    obtain ⟨k, hk, rfl, rfl, hL⟩ := hrel
    by_cases hlt : k < N
    · have HS2 := HS.out.below hL.toBelow
      have HR2 := HR.out.below hL.toBelow
      obtain ⟨A2, cap2, hv2, _, _, hel⟩ := HS2
      obtain ⟨A3, cap3, hv3, _, _, hel3⟩ := HR2
      injection hv2 with hA hn2 hc2
      injection hv3 with hA' hn3 hc3
      obtain ⟨s, hs⟩ : ∃ s, l[k]? = some s := ⟨_, List.getElem?_eq_getElem (by have := HN.out; omega)⟩
      have hmap : (l.map Sp.cells)[k]? = some s.cells := by rw [List.getElem?_map, hs]; rfl
      obtain ⟨hcl, b, off, hA2, hcell⟩ := hel k _ hmap
      obtain ⟨_, b', off', hA3, hcell3⟩ := hel3 k _ hmap
      have HC := Lib.hid hcell
      have HC3 := Lib.hid hcell3
      obtain rfl : A = some ⟨b, off, none⟩ := hA.trans hA2
      obtain rfl : A' = some ⟨b', off', none⟩ := hA'.trans hA3
      clear hel hel3 hmap hs hA hA' hn2 hn3 hc2 hc3 hA2 hA3 hcell hcell3
      have hi1 : (k : Int) < (N : Int) := by omega
      go_wp2
      refine' Calm.wp_region_calm_lit [.inl _, .inl _, .inl _, .inl _, .inl _, .inl _, .inl _, .inl _, .inl (.bool true), .inl _] (by kernel_rfl) (by kernel_rfl) (by kernel_rfl) ?_
      rotate_left 9
      refine lex_move rfl rfl (by simp only [Act.eval, Array.getD_eq_getD_getElem?, List.getElem?_toArray, List.getElem?_cons_zero, List.getElem?_cons_succ, Option.getD_some]; rfl) rfl ?_
      (try simp only [Act.put, Act.eval, Array.getD_eq_getD_getElem?, List.setIfInBounds_toArray, List.set_cons_zero, List.set_cons_succ, List.getElem?_toArray, List.getElem?_cons_zero, List.getElem?_cons_succ, Option.getD_some, List.getElem_toArray, List.getElem_cons_zero, List.getElem_cons_succ])
      refine lex_move rfl rfl (by simp only [Act.eval, Array.getD_eq_getD_getElem?, List.getElem?_toArray, List.getElem?_cons_zero, List.getElem?_cons_succ, Option.getD_some]; rfl) rfl ?_
      (try simp only [Act.put, Act.eval, Array.getD_eq_getD_getElem?, List.setIfInBounds_toArray, List.set_cons_zero, List.set_cons_succ, List.getElem?_toArray, List.getElem?_cons_zero, List.getElem?_cons_succ, Option.getD_some, List.getElem_toArray, List.getElem_cons_zero, List.getElem_cons_succ])
      refine lex_pure rfl rfl (by intro w'; go_simp; (try go_bits); rfl) ?_
      (try simp only [Act.put, Act.eval, Array.getD_eq_getD_getElem?, List.setIfInBounds_toArray, List.set_cons_zero, List.set_cons_succ, List.getElem?_toArray, List.getElem?_cons_zero, List.getElem?_cons_succ, Option.getD_some, List.getElem_toArray, List.getElem_cons_zero, List.getElem_cons_succ])
      refine lex_loadA _ rfl rfl (by kernel_rfl) rfl (c := s.cells) HC.out rfl (by kernel_rfl) (by rfl) rfl ?_
      (try simp only [Act.put, Act.eval, Array.getD_eq_getD_getElem?, List.setIfInBounds_toArray, List.set_cons_zero, List.set_cons_succ, List.getElem?_toArray, List.getElem?_cons_zero, List.getElem?_cons_succ, Option.getD_some, List.getElem_toArray, List.getElem_cons_zero, List.getElem_cons_succ])
      refine lex_move rfl rfl (by simp only [Act.eval, Array.getD_eq_getD_getElem?, List.getElem?_toArray, List.getElem?_cons_zero, List.getElem?_cons_succ, Option.getD_some]; rfl) rfl ?_
      (try simp only [Act.put, Act.eval, Array.getD_eq_getD_getElem?, List.setIfInBounds_toArray, List.set_cons_zero, List.set_cons_succ, List.getElem?_toArray, List.getElem?_cons_zero, List.getElem?_cons_succ, Option.getD_some, List.getElem_toArray, List.getElem_cons_zero, List.getElem_cons_succ])
      refine lex_move rfl rfl (by simp only [Act.eval, Array.getD_eq_getD_getElem?, List.getElem?_toArray, List.getElem?_cons_zero, List.getElem?_cons_succ, Option.getD_some]; rfl) rfl ?_
      (try simp only [Act.put, Act.eval, Array.getD_eq_getD_getElem?, List.setIfInBounds_toArray, List.set_cons_zero, List.set_cons_succ, List.getElem?_toArray, List.getElem?_cons_zero, List.getElem?_cons_succ, Option.getD_some, List.getElem_toArray, List.getElem_cons_zero, List.getElem_cons_succ])
      refine lex_pure rfl rfl (by intro w'; go_simp; (try go_bits); rfl) ?_
      (try simp only [Act.put, Act.eval, Array.getD_eq_getD_getElem?, List.setIfInBounds_toArray, List.set_cons_zero, List.set_cons_succ, List.getElem?_toArray, List.getElem?_cons_zero, List.getElem?_cons_succ, Option.getD_some, List.getElem_toArray, List.getElem_cons_zero, List.getElem_cons_succ])
      refine lex_loadA _ rfl rfl (by kernel_rfl) rfl (c := s.cells) HC3.out rfl (by kernel_rfl) (by rfl) rfl ?_
      (try simp only [Act.put, Act.eval, Array.getD_eq_getD_getElem?, List.setIfInBounds_toArray, List.set_cons_zero, List.set_cons_succ, List.getElem?_toArray, List.getElem?_cons_zero, List.getElem?_cons_succ, Option.getD_some, List.getElem_toArray, List.getElem_cons_zero, List.getElem_cons_succ])
      refine lex_call Try.func33 (by kernel_rfl) rfl rfl rfl (by simp only [List.map_toArray, List.map_cons, List.map_nil, Act.eval, Array.getD_eq_getD_getElem?, List.getElem?_toArray, List.getElem?_cons_zero, List.getElem?_cons_succ, Option.getD_some]; try rfl) rfl (fun w' hb => eqSpot_same s.x s.y _) ?_
      (try simp only [Act.put, Act.eval, Array.getD_eq_getD_getElem?, List.setIfInBounds_toArray, List.set_cons_zero, List.set_cons_succ, List.getElem?_toArray, List.getElem?_cons_zero, List.getElem?_cons_succ, Option.getD_some, List.getElem_toArray, List.getElem_cons_zero, List.getElem_cons_succ])
      refine lex_pure rfl rfl (by intro w'; go_simp; (try go_bits); rfl) ?_
      (try simp only [Act.put, Act.eval, Array.getD_eq_getD_getElem?, List.setIfInBounds_toArray, List.set_cons_zero, List.set_cons_succ, List.getElem?_toArray, List.getElem?_cons_zero, List.getElem?_cons_succ, Option.getD_some, List.getElem_toArray, List.getElem_cons_zero, List.getElem_cons_succ])
      intro wc hH
      replace hL := hL.ext hH.below
      clear hH
      go_wp2
      go_roundg (N - (k + 1))
      case measure => omega
      case rel => exact ⟨k + 1, by omega, rfl, by go_num, hL⟩
    · go_wp2
      go_ret
      exact ⟨rfl, hL.toBelow⟩

end Go.Proofs.Ytnafnhpajkhgkaa
