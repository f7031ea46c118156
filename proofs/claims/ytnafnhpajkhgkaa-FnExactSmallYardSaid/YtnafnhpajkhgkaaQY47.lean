import Derived.Test.YtnafnhpajkhgkaaQY33
import Derived.Test.YtnafnhpajkhgkaaQY39
import Derived.Test.YtnafnhpajkhgkaaQY41
import Derived.Test.YtnafnhpajkhgkaaQY42
import Derived.Test.YtnafnhpajkhgkaaQY45
import Derived.Test.YtnafnhpajkhgkaaQY46
/- The open sides of cells: the program's. No condition but a length of at most 2^20. -/
namespace Go.Proofs.Ytnafnhpajkhgkaa
set_option linter.unusedVariables false
set_option linter.unusedSimpArgs false
open Go.RowKit Mem Wk Go.Sort

namespace Wk
variable {P : Program} {n : Nat} {O : List Nat} {w0 : World} {l : List (Nat × Value)} {N L : List (Nat × TypeId × Array Value)} {Q : Exit → Act → World → Prop} {ops : Array Oper} {o : Oper} {rest : List Oper} {kk d : Nat} {v : Value} {x y : Operand} {Nok : List (Nat × TypeId × Array Value) → Prop} {pl : Nat → CalmE.Plan (List (Nat × TypeId × Array Value))}
theorem c_drawZo {id : Nat} {r : List Oper} (bs : List Bool) (Nok : List (Nat × TypeId × Array Value) → Prop) (pl : List (CalmE.Plan (List (Nat × TypeId × Array Value)))) (hm : P.follows .mixedOrders = true) (hB : Region.lexB .any r.toArray = true) (hst : CalmE.effB .any r.toArray bs = true) (hag : CalmE.Agree pl bs) (hok : Nok [])
    (h : Z P r.toArray Q n O w0 Nok (fun i => pl.getD i (.inl undef)) r 0 l [] L) : C P Q n O w0 (.region id r.toArray true) l L := c_drawZ bs Nok [] L pl hm hB hst hag hok (List.Perm.refl _) h
/-- a callee that makes a slice -/
theorem z_new {f : FuncId} {fn : Func} {xs : Array Operand} {ts : Array TypeId} {vs : List Value} {T : TypeId} {sz m : Nat} {ys : List Value} (hf : P.funcs[f]? = some fn) (hname : (fn.name == "runtime.NumGoroutine") = false) (hb : fn.body.isSome = true) (hg : o.guard = none) (hd : o.dst = some d) (hn : Nat.blt d n = true)
    (hop : o.op = .call { callee := .value (.func f), args := xs, argTypes := ts }) (hargs : evs l xs.toList = some vs) (hsz : 0 < sz) (hlen : ys.length = m * sz) (hmx : m ≤ maxLen) (hok : ∀ N, Nok N) (hc : ∀ w, Kn O w0 w ([] ++ L) → Calls P f vs.toArray w (NewS T sz ys w))
    (hp : pl kk = .inr (fun v N' => ∃ i : Nat × Nat × Array Value, Ap sz m i.2.1 i.2.2 ys ∧ v = .slice (some ⟨i.1, 0, none⟩) m i.2.1 ∧ N' = [(i.1, T, i.2.2)]))
    (h : ∀ g cap cur, Ap sz m cap cur ys → Z P ops Q n O w0 Nok pl rest (kk + 1) ((d, .slice (some ⟨g, 0, none⟩) m cap) :: l) [(g, T, cur)] L) : Z P ops Q n O w0 Nok pl (o :: rest) kk l [] L :=
  z_write (fun i : Nat × Nat × Array Value => Ap sz m i.2.1 i.2.2 ys) (fun i => .slice (some ⟨i.1, 0, none⟩) m i.2.1) (fun i => [(i.1, T, i.2.2)]) hf hname hb hg hd hn hop hargs
    (fun w hw => (hc w hw).mono fun e w' ⟨g, k, cap, cur, he, hA, hge, hat, hb⟩ => by
      have hk : k = m := by have h1 := hA.len; rw [hlen] at h1; exact (Nat.eq_of_mul_eq_mul_right hsz h1).symm
      subst hk
      exact ⟨(g, cap, cur), hA, he, Own.add hw hb hge hat⟩)
    ⟨(0, m, ys.toArray), ⟨hlen, Nat.le_refl _, hmx, by simpa using hlen, by rw [← hlen]; exact List.take_length⟩⟩ (fun _ _ => hok _) hp (fun i hi => h i.1 i.2.1 i.2.2 hi)
/-- a callee that writes what was made, and gives it back -/
theorem z_upd {f : FuncId} {fn : Func} {xs : Array Operand} {ts : Array TypeId} {vs : List Value} {T : TypeId} {sz m g cap : Nat} {cur : Array Value} {ys : List Value} (hf : P.funcs[f]? = some fn) (hname : (fn.name == "runtime.NumGoroutine") = false) (hb : fn.body.isSome = true) (hg : o.guard = none) (hd : o.dst = some d) (hn : Nat.blt d n = true)
    (hop : o.op = .call { callee := .value (.func f), args := xs, argTypes := ts }) (hargs : evs l xs.toList = some vs) (hlen : ys.length = m * sz) (hmx : m ≤ maxLen) (hok : ∀ N, Nok N)
    (hc : ∀ w, Kn O w0 w ([(g, T, cur)] ++ L) → w.heap[g]? = some (.cells cur T (0, 0)) → Calls P f vs.toArray w fun e w' => e = .returned (.slice (some ⟨g, 0, none⟩) m cap) ∧ ∃ cs', Ap sz m cap cs' ys ∧ Upd w w' g T cs')
    (hp : pl kk = .inr (fun v N' => ∃ i : Nat × Nat × Array Value, Ap sz m i.2.1 i.2.2 ys ∧ v = .slice (some ⟨i.1, 0, none⟩) m i.2.1 ∧ N' = [(i.1, T, i.2.2)]))
    (h : ∀ g cap cur, Ap sz m cap cur ys → Z P ops Q n O w0 Nok pl rest (kk + 1) ((d, .slice (some ⟨g, 0, none⟩) m cap) :: l) [(g, T, cur)] L) : Z P ops Q n O w0 Nok pl (o :: rest) kk l [(g, T, cur)] L :=
  z_write (fun i : Nat × Nat × Array Value => Ap sz m i.2.1 i.2.2 ys) (fun i => .slice (some ⟨i.1, 0, none⟩) m i.2.1) (fun i => [(i.1, T, i.2.2)]) hf hname hb hg hd hn hop hargs
    (fun w hw => (hc w hw (hw.has _ List.mem_cons_self)).mono fun e w' ⟨he, cs', hA, hu⟩ => ⟨(g, cap, cs'), hA, he, Kn.upd (i := 0) hw rfl hu⟩)
    ⟨(0, m, ys.toArray), ⟨hlen, Nat.le_refl _, hmx, by simpa using hlen, by rw [← hlen]; exact List.take_length⟩⟩ (fun _ _ => hok _) hp (fun i hi => h i.1 i.2.1 i.2.2 hi)
/-- what was made is assigned -/
theorem z_asg {e : TypeId} {sz g m cap : Nat} {cur : Array Value} {xs : List Value} (ho : o.op = .assign x) (hA : Ap sz m cap cur xs) (hx : ev l x = some (.slice (some ⟨g, 0, none⟩) m cap)) (hg : o.guard = none) (hd : o.dst = some d) (hdn : Nat.blt d n = true) (hok : ∀ N, Nok N)
    (hp : pl kk = .inr (fun v N' => ∃ i : Nat × Nat × Array Value, Ap sz m i.2.1 i.2.2 xs ∧ v = .slice (some ⟨i.1, 0, none⟩) m i.2.1 ∧ N' = [(i.1, e, i.2.2)]))
    (h : ∀ g' cap' cur', Ap sz m cap' cur' xs → Z P ops Q n O w0 Nok pl rest (kk + 1) ((d, .slice (some ⟨g', 0, none⟩) m cap') :: l) [(g', e, cur')] L) : Z P ops Q n O w0 Nok pl (o :: rest) kk l [(g, e, cur)] L :=
  z_eff (fun i : Nat × Nat × Array Value => Ap sz m i.2.1 i.2.2 xs) (fun i => .slice (some ⟨i.1, 0, none⟩) m i.2.1) (fun i => [(i.1, e, i.2.2)]) hg (fun a w hF hw => by
    have hr := r_assign (P := P) (O := O) (w0 := w0) (L := [(g, e, cur)] ++ L) ho hx a w hF hw
    unfold CalmE.effAt
    rw [hr]
    exact ⟨(g, cap, cur), hA, rfl, hw⟩) ⟨(g, cap, cur), hA⟩ (fun _ _ => hok _) hp (fun i hi a hF => by rw [hd]; exact h i.1 i.2.1 i.2.2 hi _ (hF.put hdn _))
end Wk
attribute [local irreducible] Calls Wk.S Wk.C Wk.E Wk.X Wk.T Wk.Z Wk.andV Wk.shrV Calm.wpLex CalmE.wpLex cpF ordL soB soL opnL
def SrtH (L : List Hd) (n cap : Nat) (cs : Array Value) : Prop := ∃ M : List Hd, M.Perm L ∧ (M.Pairwise fun a b => ltOf cmH b a = false) ∧ Ap 3 n cap cs (flH M)
theorem sortH_m (L : List Hd) (g n cap : Nat) (cur : Array Value) (w : World) (hA : Ap 3 n cap cur (flH L)) (hg : w.heap[g]? = some (.cells cur 66 (0, 0))) (hn : L.length ≤ 1048576) (hin : ∀ s ∈ L, hdI s) :
    Calls Try.prog 67 #[.slice (some ⟨g, 0, none⟩) n cap, .func (.func 68) #[] #[]] w fun e w' => e = .returned (.tuple #[]) ∧ ∃ cs', SrtH L n cap cs' ∧ Upd w w' g 66 cs' :=
  (sortH_any L g n cap cur w hA hg hn hin).mono fun e w' ⟨he, M, cs', h1, h2, h3, h4⟩ => ⟨he, cs', ⟨M, h1, h2, h3⟩, h4⟩
theorem soL_hdI {p : Nat → Int} {L : List Sp} (hL : ∀ s ∈ L, isC (p 0) (p 1) s.x s.y = true) {h : Hd} (hm : h ∈ soL p L) : hdI h := by
  have hin : ∀ s ∈ L, inR s := fun s h => isC_range (hL s h)
  unfold soL at hm
  rw [List.mem_flatMap] at hm
  obtain ⟨s, hs, hh⟩ := hm
  rw [ordL_mem hin] at hs
  obtain ⟨k, hk, hc, _, rfl⟩ := soB_mem.1 hh
  have h1 := hin s hs
  exact hd_range ⟨h1.1, h1.2.1⟩ h1.2.2 (isC_range hc)
theorem soL_len (p : Nat → Int) (L : List Sp) : (soL p L).length ≤ 400 := by
  have e : soL p L = soT p L (ordL L) (ordL L).length := by unfold soL soT; rw [List.take_length]
  rw [e]
  have := soT_len p L (ordL L) (ordL L).length
  have := ordL_len L
  omega
theorem flH_len (l : List Hd) : (flH l).length = l.length * 3 := by
  unfold flH
  rw [flat_len (sz := 3) (l.map Hd.cells) (fun c hc => by obtain ⟨s, _, rfl⟩ := List.mem_map.1 hc; rfl), List.length_map]
set_option maxRecDepth 100000 in
set_option maxHeartbeats 1600000 in
theorem openSides_any (p : Nat → Int) (cs : Array Value) (L : List Sp) (b off capL : Nat) (w : World) (hp : Pv p cs) (hv : validP p = true) (hS : SlA [] w 2 (some ⟨b, off, none⟩) (L.map Sp.cells)) (hn : L.length ≤ 1048576) (hL : ∀ s ∈ L, isC (p 0) (p 1) s.x s.y = true) :
    Calls Try.prog 28 #[.agg cs, .slice (some ⟨b, off, none⟩) L.length capL] w (NewS 66 3 (flH (opnL p L)) w) := by
  have hsz := hp.size
  have hin : ∀ s ∈ L, inR s := fun s h => isC_range (hL s h)
  have hso := fun w hS => sidesOf_any p cs L b off capL w hp hS hn hin
  have hsl := soL_len p L
  have hsh : ∀ h ∈ soL p L, hdI h := fun h hm => soL_hdI hL hm
  have hop : ∀ M : List Hd, M.Perm ((soL p L).filter fun h => !stP p h) → (M.Pairwise fun a b => ltOf cmH b a = false) → M = opnL p L := fun M h1 h2 => opn_of hv hL h1 h2
  generalize soL p L = SL at *
  generalize opnL p L = R at *
  have hDl : (SL.filter fun h => !stP p h).length ≤ 400 := Nat.le_trans (List.length_filter_le _ _) hsl
  have hDh : ∀ h ∈ (SL.filter fun h => !stP p h), hdI h := fun h hm => hsh h (List.mem_filter.1 hm).1
  have hdel := fun g n cap cur w hA hg => delHb_any SL 66 _ [.agg cs] [] (stP p) g n cap cur w hA hg (by omega) Try.func66 (by kernel_rfl) rfl (fun s hs w' _ => stands_any p cs s.x s.y s.s w' hp (hsh s hs).1 (hsh s hs).2)
  generalize hD : (SL.filter fun h => !stP p h) = D at *
  refine enter2 Try.func28 rfl rfl rfl (Own.start w) ?_
  repeat' (first
    | (refine s_g ?_; first
      | (refine s_k 0 rfl ?_; refine s_val rfl rfl rfl (r_move rfl rfl) ?_)
      | (refine s_k 8 rfl ?_; first | (refine' s_val rfl rfl rfl (r_ldv rfl rfl ?qm ?qv) ?_; (case qm => (exact zMm)); (case qv => (exact zLe))) | (refine' s_val rfl rfl rfl (r_ldo rfl rfl ?qw (by simp) ?qv) ?_; (case qw => assumption); (case qv => (exact zLe))))
      | (refine s_k 1 rfl ?_; refine s_val rfl rfl rfl (r_assign rfl rfl) ?_)
      | (refine s_k 4 rfl ?_; first | refine s_boxA rfl rfl rfl rfl rfl fun blk => ?_ | refine s_box1 rfl rfl rfl rfl rfl rfl fun blk => ?_)
      | (refine s_k 18 rfl ?_; refine s_val rfl rfl rfl (r_func rfl rfl rfl) ?_)
      | refine s_nil ?_)
    | (refine c_g ?_; first | refine c_seq ?_ | refine c_region ?_ | (refine c_gc ?_; first | refine c_cond1 rfl zTr ?_ | refine c_cond0 rfl zTr ?_ | refine z_condd1 rfl ?_ | refine z_condd0 rfl ?_ | refine z_conddn1 rfl ?_ | refine z_conddn0 rfl ?_ | refine c_condd rfl (fun hc => ?_) (fun hc => ?_) | refine c_conddn rfl (fun hc => ?_) (fun hc => ?_) | refine c_condn rfl (fun hc => ?_) (fun hc => ?_) | refine c_cond rfl (fun hc => ?_) (fun hc => ?_)) | refine c_block ?_ | refine c_skip ?_ | refine c_exit ?_ | refine c_ret ?_)
    | (refine e_g ?_; first | refine e_then ?_ | refine e_blkn ?_ | refine e_thenx ?_ | refine e_thenr ?_ | refine e_blkr ?_ | refine e_blkx ?_ | refine e_blky rfl ?_))
  refine' c_drawZo (id := 1) [false, false, true, false, false, true, true] (fun _ => True) [(Sum.inl _ : CalmE.Plan (List (Nat × TypeId × Array Value))), (Sum.inl _ : CalmE.Plan (List (Nat × TypeId × Array Value))), (Sum.inr _ : CalmE.Plan (List (Nat × TypeId × Array Value))), (Sum.inl _ : CalmE.Plan (List (Nat × TypeId × Array Value))), (Sum.inl _ : CalmE.Plan (List (Nat × TypeId × Array Value))), (Sum.inr _ : CalmE.Plan (List (Nat × TypeId × Array Value))), (Sum.inr _ : CalmE.Plan (List (Nat × TypeId × Array Value)))] (by kernel_rfl) (by kernel_rfl) (by kernel_rfl) (by simp only [CalmE.Agree, and_self, true_and, and_true]) trivial ?zmain
  case zmain =>
    refine' z_val rfl rfl rfl ?hr ?hp ?_
    case hr => exact fun N hN => r_ldv rfl rfl (List.mem_append_right _ m0) (ldvW tb rfl hsz)
    case hp => exact rfl
    refine' z_val rfl rfl rfl ?hr ?hp ?_
    case hr => exact fun N hN => r_move rfl rfl
    case hp => exact rfl
    refine' z_new (m := SL.length) Try.func65 (by kernel_rfl) rfl rfl rfl rfl rfl rfl (by omega) (flH_len SL) (by unfold maxLen; omega) (fun _ => trivial) (fun w hw => hso w (hS.at_ hw)) ?hp fun g1 cap1 cur1 hA1 => ?_
    case hp => exact rfl
    refine' z_val rfl rfl rfl ?hr ?hp ?_
    case hr => exact fun N hN => r_ldv rfl rfl (List.mem_append_right _ m0) (ldvW tb rfl hsz)
    case hp => exact rfl
    refine' z_val rfl rfl rfl ?hr ?hp ?_
    case hr => exact fun N hN => r_func (fs := [.agg cs]) (cs := []) rfl rfl rfl
    case hp => exact rfl
    refine' z_upd (m := D.length) Try.func64 (by kernel_rfl) rfl rfl rfl rfl rfl rfl (flH_len D) (by unfold maxLen; omega) (fun _ => trivial) (fun w hw hg => hdel g1 _ cap1 cur1 w hA1 hg) ?hp fun g2 cap2 cur2 hA2 => ?_
    case hp => exact rfl
    refine' z_asg rfl hA2 rfl rfl rfl rfl (fun _ => trivial) ?hp fun g3 cap3 cur3 hA3 => ?_
    case hp => exact rfl
    refine z_nil ?_
    repeat' (first
      | (refine s_g ?_; first
      | (refine s_k 0 rfl ?_; refine s_val rfl rfl rfl (r_move rfl rfl) ?_)
      | (refine s_k 8 rfl ?_; first | (refine' s_val rfl rfl rfl (r_ldv rfl rfl ?qm ?qv) ?_; (case qm => (exact zMm)); (case qv => (exact zLe))) | (refine' s_val rfl rfl rfl (r_ldo rfl rfl ?qw (by simp) ?qv) ?_; (case qw => assumption); (case qv => (exact zLe))))
      | (refine s_k 1 rfl ?_; refine s_val rfl rfl rfl (r_assign rfl rfl) ?_)
      | (refine s_k 35 rfl ?_; (refine s_callM0 Try.func67 (by kernel_rfl) rfl rfl rfl rfl rfl rfl (fun w hL hg => sortH_m D _ _ _ _ w hA3 hg (by omega) hDh) fun cs hp => ?_))
      | (refine s_k 4 rfl ?_; first | refine s_boxA rfl rfl rfl rfl rfl fun blk => ?_ | refine s_box1 rfl rfl rfl rfl rfl rfl fun blk => ?_)
      | (refine s_k 18 rfl ?_; refine s_val rfl rfl rfl (r_func rfl rfl rfl) ?_)
      | refine s_nil ?_)
      | (refine c_g ?_; first | refine c_seq ?_ | refine c_region ?_ | (refine c_gc ?_; first | refine c_cond1 rfl zTr ?_ | refine c_cond0 rfl zTr ?_ | refine z_condd1 rfl ?_ | refine z_condd0 rfl ?_ | refine z_conddn1 rfl ?_ | refine z_conddn0 rfl ?_ | refine c_condd rfl (fun hc => ?_) (fun hc => ?_) | refine c_conddn rfl (fun hc => ?_) (fun hc => ?_) | refine c_condn rfl (fun hc => ?_) (fun hc => ?_) | refine c_cond rfl (fun hc => ?_) (fun hc => ?_)) | refine c_block ?_ | refine c_skip ?_ | refine c_exit ?_ | refine c_ret ?_)
      | (refine e_g ?_; first | refine e_then ?_ | refine e_blkn ?_ | refine e_thenx ?_ | refine e_thenr ?_ | refine e_blkr ?_ | refine e_blkx ?_ | refine e_blky rfl ?_)
      | (refine e_ret1 (by simp) rfl (re_tmp rfl) fun w hL => ?_))
    obtain ⟨M, h1, h2, h3⟩ := hp
    rw [← hop M h1 h2]
    exact NewS.of h3 hL m0
end Go.Proofs.Ytnafnhpajkhgkaa
/- SmallYard: the program's. No condition. -/
namespace Go.Proofs.Ytnafnhpajkhgkaa
set_option linter.unusedVariables false
set_option linter.unusedSimpArgs false
open Go Go.RowKit Mem Wk
section
variable {P : Program} {n : Nat} {O : List Nat} {w0 : World} {l : List (Nat × Value)} {M L post : List (Nat × TypeId × Array Value)} {Q : Exit → Act → World → Prop} {ops : Array Oper} {o : Oper} {rest : List Oper} {k d : Nat} {x y : Operand} {pl : Nat → CalmH.Plan CalmH.St}
theorem Wk.zh_asg {e : TypeId} {sz g m cap : Nat} {cur : Array Value} {xs : List Value} (ho : o.op = .assign x) (hA : Ap sz m cap cur xs) (hx : ev l x = some (.slice (some ⟨g, 0, none⟩) m cap)) (hg : o.guard = none) (hd : o.dst = some d) (hdn : Nat.blt d n = true)
    (hp : pl k = CalmH.effP (fun E v E' => ∃ i : Nat × Nat × Array Value, Ap sz m i.2.1 i.2.2 xs ∧ v = .slice (some ⟨i.1, 0, none⟩) m i.2.1 ∧ E' = ([], (i.1, e, i.2.2) :: [])))
    (hdrop : ∀ w, Kn O w0 w (M ++ (((g, e, cur) :: post) ++ L)) → Kn O w0 w ([] ++ ([(g, e, cur)] ++ L)))
    (h : ∀ g' cap' cur', Ap sz m cap' cur' xs → Wk.ZH P ops Q n O w0 pl rest (k + 1) ((d, .slice (some ⟨g', 0, none⟩) m cap') :: l) [] [(g', e, cur')] L) : Wk.ZH P ops Q n O w0 pl (o :: rest) k l M ((g, e, cur) :: post) L :=
  zh_eff (fun i : Nat × Nat × Array Value => Ap sz m i.2.1 i.2.2 xs) (fun i => .slice (some ⟨i.1, 0, none⟩) m i.2.1) (fun E i => ([], (i.1, e, i.2.2) :: [])) hg (fun a w hF hw => by
    have hr := r_assign (P := P) (O := O) (w0 := w0) (L := M ++ (((g, e, cur) :: post) ++ L)) ho hx a w hF hw
    unfold CalmH.effAt
    rw [hr]
    exact ⟨(g, cap, cur), hA, rfl, hdrop w hw⟩) ⟨(g, cap, cur), hA⟩ hp (fun i hi a hF => by rw [hd]; exact h i.1 i.2.1 i.2.2 hi _ (hF.put hdn _))
end
theorem Wk.e_rebase {Q : Exit → Act → World → Prop} {n : Nat} {O : List Nat} {w0 w1 : World} {e : Exit} {l : List (Nat × Value)} {L : List (Nat × TypeId × Array Value)} (hr : ∀ w, Kn O w1 w L → Kn [] w0 w L) (h : Wk.E Q n [] w0 e l L) : Wk.E Q n O w1 e l L := fun a w hF hL => h a w hF (hr w hL)
theorem ordL_in {L : List Sp} {c : Sp} (h : c ∈ ordL L) : inR c := by
  unfold ordL at h
  have h1 := (List.mem_filter.1 h).1
  unfold allL at h1
  obtain ⟨k, hk, e⟩ := List.mem_map.1 h1
  have h2 := cellN_in (W := 10) (H := 10) (List.mem_range.1 hk)
  rw [e] at h2
  unfold inR; omega
def stpB (set : List Sp) (acc : List (List Sp)) (more : Sp) : List (List Sp) := adS set acc (ordL (set ++ [more]))
theorem nxB_eq (p : Nat → Int) (set : List Sp) (acc : List (List Sp)) (a : Sp) : nxB p set acc a = (nbP p a).foldl (stpB set) acc := rfl
theorem stpB_len (set : List Sp) (acc : List (List Sp)) (c : Sp) : (stpB set acc c).length ≤ acc.length + 1 := by unfold stpB adS; split <;> simp
def accOk (acc : List (List Sp)) : Prop := ∀ X ∈ acc, ∀ c ∈ X, inR c
theorem accOk.step {set : List Sp} {acc : List (List Sp)} (h : accOk acc) (c : Sp) : accOk (stpB set acc c) := fun X hX d hd => by
  unfold stpB at hX
  rcases adS_mem.1 hX with hX | ⟨_, hX⟩
  · exact h X hX d hd
  · subst hX; exact ordL_in hd
def keyS (acc : List (List Sp)) (t : ByteArray) : Prop := ∃ X ∈ acc, t = kyB X
theorem keyS_iff {acc : List (List Sp)} (h : accOk acc) {X : List Sp} (hX : ∀ c ∈ X, inR c) : keyS acc (kyB X) ↔ X ∈ acc := ⟨fun ⟨Y, hY, e⟩ => by rw [kyB_inj hX (h Y hY) e]; exact hY, fun hX => ⟨X, hX, rfl⟩⟩
theorem foldl_at {α β : Type} {f : β → α → β} {N : List α} {j : Nat} {d : α} {q : β} (hd : N[j]? = some d) : (N.take (j + 1)).foldl f q = f ((N.take j).foldl f q) d := by
  rw [List.take_add_one, hd, List.foldl_append]; rfl
attribute [local irreducible] Calls Wk.S Wk.C Wk.E Wk.X Wk.T Wk.Y Wk.ZH Wk.andV Wk.shrV Calm.wpLex CalmB.wpLex bfsN bfs stepsP CalmH.indP
set_option maxRecDepth 100000 in
set_option maxHeartbeats 1600000 in
theorem implYard_no1 (p : Nat → Int) (cs : Array Value) (s : Sp) (n : Int) (w : World) (hp : Pv p cs) (hs : s.ok) (h0 : cellC p [s] ≠ 0) :
    Calls Try.prog 21 #[.agg cs, .agg #[.int .i8 s.x, .int .i8 s.y], .int .i64 n] w fun e w' => e = .returned (.tuple #[.slice none 0 0, .int .i64 0, .int .i64 (cellC p [s])]) ∧ Below w.heap.size w w' := by
  have hsz := hp.size
  have hcc := fun w v hU => cellCode_any p cs v [s] w hp hU (by simpa using hs)
  generalize cellC p [s] = c at *
  have hA1 : Ap 2 1 1 #[.int .i8 s.x, .int .i8 s.y] (flS [s]) := ⟨rfl, Nat.le_refl _, by unfold maxLen; simp, rfl, rfl⟩
  refine enter3 Try.func21 rfl rfl rfl (Own.start w) ?_
  repeat' (first
    | (refine s_g ?_; first
      | (refine s_gd rfl ?_; first | refine s_gd1 rfl rfl zTr ?_ | refine s_gd0 rfl rfl rfl zTr ?_ | refine s_gd00 rfl rfl zTr ?_ | refine s_gp1 rfl rfl rfl (fun hc => ?_) (fun hc => ?_) | refine s_gp0 rfl rfl rfl (fun hc => ?_) (fun hc => ?_) | refine s_gnp1 rfl rfl rfl (fun hc => ?_) (fun hc => ?_) | refine s_gnp0 rfl rfl rfl (fun hc => ?_) (fun hc => ?_) | refine s_gb1 rfl rfl rfl (fun hc => ?_) (fun hc => ?_) | refine s_gb0 rfl rfl rfl (fun hc => ?_) (fun hc => ?_) | refine s_gnb1 rfl rfl rfl (fun hc => ?_) (fun hc => ?_) | refine s_gnb0 rfl rfl rfl (fun hc => ?_) (fun hc => ?_))
      | (refine s_k 0 rfl ?_; refine s_val rfl rfl rfl (r_move rfl rfl) ?_)
      | (refine s_k 8 rfl ?_; first | (refine' s_val rfl rfl rfl (r_ldv rfl rfl ?qm ?qv) ?_; (case qm => (exact zMm)); (case qv => (exact zLe))) | (refine' s_val rfl rfl rfl (r_ldo rfl rfl ?qw (by simp) ?qv) ?_; (case qw => assumption); (case qv => (exact zLe))))
      | (refine s_k 1 rfl ?_; refine s_val rfl rfl rfl (r_assign rfl rfl) ?_)
      | (refine s_k 13 rfl ?_; first | refine s_val rfl rfl rfl (r_lss rfl rfl rfl) ?_ | refine s_val rfl rfl rfl (r_eql rfl rfl rfl) ?_ | refine s_val rfl rfl rfl (r_neq rfl rfl rfl) ?_ | refine s_val rfl rfl rfl (r_add rfl rfl rfl (wrap_in (by simp only [lo, hi]; omega))) ?_ | refine s_val rfl rfl rfl (r_sub rfl rfl rfl (wrap_in (by simp only [lo, hi]; omega))) ?_ | refine s_val rfl rfl rfl (r_gtr rfl rfl rfl) ?_)
      | (refine s_k 35 rfl ?_; (refine s_call Try.func27 (by kernel_rfl) rfl rfl rfl rfl rfl rfl (fun w hL => hcc w _ (hA1.toSl (lenSp [s]) (by omega) (hL.at_ m0))) ?_))
      | (refine s_k 14 rfl ?_; refine s_val rfl rfl rfl (r_not rfl rfl) ?_)
      | (refine s_k 2 rfl ?_; first | refine s_val rfl rfl rfl (r_pick1 rfl rfl zTr rfl) ?_ | refine s_val rfl rfl rfl (r_pick0 rfl rfl zTr rfl) ?_)
      | (refine s_k 25 rfl ?_; first | refine s_val rfl rfl rfl (r_ixN tb rfl rfl rfl rfl (by omega)) ?_ | refine s_val rfl rfl rfl (r_ixA tb rfl rfl rfl rfl (by omega) (by omega)) ?_ | refine s_val rfl rfl rfl (r_ixO tb rfl rfl rfl rfl (by omega)) ?_)
      | (refine s_k 4 rfl ?_; first | refine s_boxA rfl rfl rfl rfl rfl fun blk => ?_ | refine s_box1 rfl rfl rfl rfl rfl rfl fun blk => ?_)
      | (refine s_k 9 rfl ?_; (first | refine s_st1 tb rfl rfl rfl rfl rfl rfl rfl rfl ?_ | refine s_stA tb rfl rfl rfl rfl (by first | rfl | assumption | (apply Pv.size; assumption)) rfl rfl ?_); (first | refine' st0 ?qs ?_ | refine' st1 ?qs ?_ | refine' st2 ?qs ?_ | refine' st3 ?qs ?_ | refine' st4 ?qs ?_ | refine' st5 ?qs ?_ | refine' st6 ?qs ?_ | refine' st7 ?qs ?_ | refine' st8 ?qs ?_ | refine' st9 ?qs ?_ | refine' st10 ?qs ?_ | refine' st11 ?qs ?_); (case qs => (first | exact zSet)))
      | (refine s_k 36 rfl ?_; refine s_val rfl rfl rfl (r_len tb rfl rfl rfl) ?_)
      | (refine s_k 6 rfl ?_; refine s_bsl rfl rfl (fun w => slSpot1 _ _ w) rfl rfl rfl fun blk => ?_)
      | refine s_nil ?_)
    | (refine c_g ?_; first | refine c_seq ?_ | refine c_region ?_ | (refine c_gc ?_; first | refine c_cond1 rfl zTr ?_ | refine c_cond0 rfl zTr ?_ | refine z_condd1 rfl ?_ | refine z_condd0 rfl ?_ | refine z_conddn1 rfl ?_ | refine z_conddn0 rfl ?_ | refine c_condd rfl (fun hc => ?_) (fun hc => ?_) | refine c_conddn rfl (fun hc => ?_) (fun hc => ?_) | refine c_condn rfl (fun hc => ?_) (fun hc => ?_) | refine c_cond rfl (fun hc => ?_) (fun hc => ?_)) | refine c_block ?_ | refine c_skip ?_ | refine c_exit ?_ | refine c_ret ?_)
    | (refine e_g ?_; first | refine e_then ?_ | refine e_blkn ?_ | refine e_thenx ?_ | refine e_thenr ?_ | refine e_blkr ?_ | refine e_blkx ?_ | refine e_blky rfl ?_)
    | (refine e_ret3 (by simp) rfl (re_tmp rfl) (re_tmp rfl) (re_tmp rfl) fun w hL => ⟨rfl, hL.toBelow⟩))
set_option maxRecDepth 100000 in
set_option maxHeartbeats 1600000 in
theorem implYard_no2 (p : Nat → Int) (cs : Array Value) (s : Sp) (n : Int) (w : World) (hp : Pv p cs) (hs : s.ok) (h0 : cellC p [s] = 0) (hn : ¬ (1 ≤ n ∧ n ≤ 6)) :
    Calls Try.prog 21 #[.agg cs, .agg #[.int .i8 s.x, .int .i8 s.y], .int .i64 n] w fun e w' => e = .returned (.tuple #[.slice none 0 0, .int .i64 0, .int .i64 3]) ∧ Below w.heap.size w w' := by
  have hsz := hp.size
  have hcc := fun w v hU => cellCode_any p cs v [s] w hp hU (by simpa using hs)
  rw [h0] at hcc
  have hb : inB n 1 6 = false := by unfold inB; simp; omega
  have hin := fun w => within_any n 1 6 w
  rw [hb] at hin
  have hA1 : Ap 2 1 1 #[.int .i8 s.x, .int .i8 s.y] (flS [s]) := ⟨rfl, Nat.le_refl _, by unfold maxLen; simp, rfl, rfl⟩
  refine enter3 Try.func21 rfl rfl rfl (Own.start w) ?_
  repeat' (first
    | (refine s_g ?_; first
      | (refine s_gd rfl ?_; first | refine s_gd1 rfl rfl zTr ?_ | refine s_gd0 rfl rfl rfl zTr ?_ | refine s_gd00 rfl rfl zTr ?_ | refine s_gp1 rfl rfl rfl (fun hc => ?_) (fun hc => ?_) | refine s_gp0 rfl rfl rfl (fun hc => ?_) (fun hc => ?_) | refine s_gnp1 rfl rfl rfl (fun hc => ?_) (fun hc => ?_) | refine s_gnp0 rfl rfl rfl (fun hc => ?_) (fun hc => ?_) | refine s_gb1 rfl rfl rfl (fun hc => ?_) (fun hc => ?_) | refine s_gb0 rfl rfl rfl (fun hc => ?_) (fun hc => ?_) | refine s_gnb1 rfl rfl rfl (fun hc => ?_) (fun hc => ?_) | refine s_gnb0 rfl rfl rfl (fun hc => ?_) (fun hc => ?_))
      | (refine s_k 0 rfl ?_; refine s_val rfl rfl rfl (r_move rfl rfl) ?_)
      | (refine s_k 8 rfl ?_; first | (refine' s_val rfl rfl rfl (r_ldv rfl rfl ?qm ?qv) ?_; (case qm => (exact zMm)); (case qv => (exact zLe))) | (refine' s_val rfl rfl rfl (r_ldo rfl rfl ?qw (by simp) ?qv) ?_; (case qw => assumption); (case qv => (exact zLe))))
      | (refine s_k 1 rfl ?_; refine s_val rfl rfl rfl (r_assign rfl rfl) ?_)
      | (refine s_k 13 rfl ?_; first | refine s_val rfl rfl rfl (r_lss rfl rfl rfl) ?_ | refine s_val rfl rfl rfl (r_eql rfl rfl rfl) ?_ | refine s_val rfl rfl rfl (r_neq rfl rfl rfl) ?_ | refine s_val rfl rfl rfl (r_add rfl rfl rfl (wrap_in (by simp only [lo, hi]; omega))) ?_ | refine s_val rfl rfl rfl (r_sub rfl rfl rfl (wrap_in (by simp only [lo, hi]; omega))) ?_ | refine s_val rfl rfl rfl (r_gtr rfl rfl rfl) ?_)
      | (refine s_k 35 rfl ?_; first | (refine s_call Try.func27 (by kernel_rfl) rfl rfl rfl rfl rfl rfl (fun w hL => hcc w _ (hA1.toSl (lenSp [s]) (by omega) (hL.at_ m0))) ?_) | (refine s_call Try.func49 (by kernel_rfl) rfl rfl rfl rfl rfl rfl (fun w hL => to_below (hin w) rfl) ?_))
      | (refine s_k 14 rfl ?_; refine s_val rfl rfl rfl (r_not rfl rfl) ?_)
      | (refine s_k 2 rfl ?_; first | refine s_val rfl rfl rfl (r_pick1 rfl rfl zTr rfl) ?_ | refine s_val rfl rfl rfl (r_pick0 rfl rfl zTr rfl) ?_)
      | (refine s_k 25 rfl ?_; first | refine s_val rfl rfl rfl (r_ixN tb rfl rfl rfl rfl (by omega)) ?_ | refine s_val rfl rfl rfl (r_ixA tb rfl rfl rfl rfl (by omega) (by omega)) ?_ | refine s_val rfl rfl rfl (r_ixO tb rfl rfl rfl rfl (by omega)) ?_)
      | (refine s_k 4 rfl ?_; first | refine s_boxA rfl rfl rfl rfl rfl fun blk => ?_ | refine s_box1 rfl rfl rfl rfl rfl rfl fun blk => ?_)
      | (refine s_k 9 rfl ?_; (first | refine s_st1 tb rfl rfl rfl rfl rfl rfl rfl rfl ?_ | refine s_stA tb rfl rfl rfl rfl (by first | rfl | assumption | (apply Pv.size; assumption)) rfl rfl ?_); (first | refine' st0 ?qs ?_ | refine' st1 ?qs ?_ | refine' st2 ?qs ?_ | refine' st3 ?qs ?_ | refine' st4 ?qs ?_ | refine' st5 ?qs ?_ | refine' st6 ?qs ?_ | refine' st7 ?qs ?_ | refine' st8 ?qs ?_ | refine' st9 ?qs ?_ | refine' st10 ?qs ?_ | refine' st11 ?qs ?_); (case qs => (first | exact zSet)))
      | (refine s_k 36 rfl ?_; refine s_val rfl rfl rfl (r_len tb rfl rfl rfl) ?_)
      | (refine s_k 6 rfl ?_; refine s_bsl rfl rfl (fun w => slSpot1 _ _ w) rfl rfl rfl fun blk => ?_)
      | refine s_nil ?_)
    | (refine c_g ?_; first | refine c_seq ?_ | refine c_region ?_ | (refine c_gc ?_; first | refine c_cond1 rfl zTr ?_ | refine c_cond0 rfl zTr ?_ | refine z_condd1 rfl ?_ | refine z_condd0 rfl ?_ | refine z_conddn1 rfl ?_ | refine z_conddn0 rfl ?_ | refine c_condd rfl (fun hc => ?_) (fun hc => ?_) | refine c_conddn rfl (fun hc => ?_) (fun hc => ?_) | refine c_condn rfl (fun hc => ?_) (fun hc => ?_) | refine c_cond rfl (fun hc => ?_) (fun hc => ?_)) | refine c_block ?_ | refine c_skip ?_ | refine c_exit ?_ | refine c_ret ?_)
    | (refine e_g ?_; first | refine e_then ?_ | refine e_blkn ?_ | refine e_thenx ?_ | refine e_thenr ?_ | refine e_blkr ?_ | refine e_blkx ?_ | refine e_blky rfl ?_)
    | (refine e_ret3 (by simp) rfl (re_tmp rfl) (re_tmp rfl) (re_tmp rfl) fun w hL => ⟨rfl, hL.toBelow⟩))
end Go.Proofs.Ytnafnhpajkhgkaa
