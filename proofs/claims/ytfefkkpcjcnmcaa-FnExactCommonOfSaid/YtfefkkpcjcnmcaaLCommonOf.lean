import Derived.Test.YtfefkkpcjcnmcaaLk
import Derived.Test.YtfefkkpcjcnmcaaFmP
import Derived.Test.YtfefkkpcjcnmcaaMk
import Derived.Test.YtfefkkpcjcnmcaaStr
import Derived.Test.YtfefkkpcjcnmcaaRch
import Derived.Test.YtfefkkpcjcnmcaaFmK
/- What law texts share where a function returns a slice and a code. No condition. -/
namespace Go.Proofs.Ytfefkkpcjcnmcaa
set_option linter.unusedVariables false
set_option linter.unusedSimpArgs false
open Go.RowKit Mem Wk
namespace Wk
open Calm
variable {P : Program} {n : Nat} {O : List Nat} {w0 : World} {l : List (Nat × Value)} {N L : List (Nat × TypeId × Array Value)} {Q : Exit → Act → World → Prop} {ops : Array Oper} {o : Oper} {rest : List Oper} {k d : Nat} {pl : Nat → CalmB.Plan} {v : Value}
def MadeS2 (T : TypeId) (sz : Nat) (cs : List Value) (c : Int) : Value → Nat → TypeId × Array Value → Prop := fun u g x => ∃ m cap, u = .tuple #[.slice (some ⟨g, 0, none⟩) m cap, .int .i64 c] ∧ Ap sz m cap x.2 cs ∧ x.1 = T
/-- A callee that returns a slice it has made, and a code. -/
theorem y_callN2 {f : FuncId} {fn : Func} {xs : Array Operand} {ts : Array TypeId} {vs : List Value} {T : TypeId} {sz m : Nat} {cs : List Value} {c : Int} (hf : P.funcs[f]? = some fn) (hname : (fn.name == "runtime.NumGoroutine") = false) (hb : fn.body.isSome = true) (hg : o.guard = none) (hd : o.dst = some d) (hn : Nat.blt d n = true)
    (hop : o.op = .call { callee := .value (.func f), args := xs, argTypes := ts }) (hargs : evs l xs.toList = some vs) (hc : ∀ w, Kn O w0 w L → Calls P f vs.toArray w (NewS2 T sz cs c w)) (hlen : cs.length = m * sz) (hmx : m ≤ maxLen) (hp : pl k = .inr (MadeS2 T sz cs c))
    (h : ∀ g m cap cur, Ap sz m cap cur cs → Y P ops Q n O w0 pl rest (k + 1) ((d, .tuple #[.slice (some ⟨g, 0, none⟩) m cap, .int .i64 c]) :: l) ((g, T, cur) :: N) L) : Y P ops Q n O w0 pl (o :: rest) k l N L := fun a w E hF hL hE => by
  unfold CalmB.wpLex
  rw [if_pos (by simp [Region.wanted, hg])]
  unfold CalmB.pOp
  rw [hp]
  refine ⟨fun N0 => ⟨.tuple #[.slice (some ⟨N0, 0, none⟩) m m, .int .i64 c], N0, (T, cs.toArray), Nat.le_refl _, m, m, rfl, ⟨hlen, Nat.le_refl _, hmx, by simp [hlen], by simp [← hlen]⟩, rfl⟩, ⟨[], fun r hr => (by cases hr), fun w' hb' _ => ?_⟩, fun u g x hM hB he => ?_⟩
  · show CalmB.mkAt P o a w' _
    unfold CalmB.mkAt
    rw [run_callc (caps := []) hf hname hb hop rfl (hF.evals hargs) w']
    refine ⟨rfl, ?_⟩
    rw [List.append_nil]
    exact (hc w' (Own.ext hL hb')).mono fun e w'' ⟨g, m, cap, cur, he, hA, hge, hat, hb⟩ => ⟨_, g, (T, cur), ⟨m, cap, rfl, hA, rfl⟩, he, hge, hat, hb⟩
  · obtain ⟨m', cap, rfl, hA, hT⟩ := hM
    obtain ⟨T', cur⟩ := x
    simp only at hT hA
    subst hT
    rw [hd]
    refine h g m' cap cur hA _ w _ (hF.put hn _) hL ⟨?_, fun b hb => ?_⟩
    · simp only [List.map_cons, List.nodup_cons, List.mem_map, not_exists, not_and]
      exact ⟨fun b hb e => (by have := hE.2 b hb; rw [e, he] at this; cases this), hE.1⟩
    · rcases List.mem_cons.1 hb with rfl | hb
      · exact Calm.upd_same _ _ _
      · rw [Calm.upd_ne _ _ (fun e => by have := hE.2 b hb; rw [e, he] at this; cases this)]; exact hE.2 b hb
theorem Ap.fit {sz m cap : Nat} {cur : Array Value} {xs : List Value} (h : Ap sz m cap cur xs) : m * sz ≤ cur.size := by rw [h.size]; exact Nat.mul_le_mul_right _ h.le
end Wk
theorem sl_nil (w : World) (sz : Nat) : Sl w sz (.slice none 0 0) [] := ⟨none, 0, rfl, by simp, by unfold maxLen; omega, fun i c h => by simp at h⟩
theorem pasL_len (p : Nat → Int) (f : Sp → Bool) (ha : (p 0).toNat ≤ 10) (hb : (p 1).toNat ≤ 10) : (pasL p f).length ≤ 100 := by
  unfold pasL
  exact Nat.le_trans (cellL_len _ _ _) (Nat.mul_le_mul hb ha)
end Go.Proofs.Ytfefkkpcjcnmcaa

/- The cells that two stakes have in common: both functions. No condition. -/
namespace Go.Proofs.Ytfefkkpcjcnmcaa
set_option linter.unusedVariables false
set_option linter.unusedSimpArgs false
open Go.RowKit Mem Wk
namespace Wk
open Calm
variable {P : Program} {n : Nat} {O : List Nat} {w0 : World} {l : List (Nat × Value)} {N L : List (Nat × TypeId × Array Value)} {Q : Exit → Act → World → Prop} {ops : Array Oper} {o : Oper} {rest : List Oper} {k d : Nat} {pl : Nat → CalmB.Plan} {v : Value}
/-- A callee that makes a slice and reads the two last ones that have been made. -/
theorem y_rdN2 {f : FuncId} {fn : Func} {xs : Array Operand} {ts : Array TypeId} {vs : List Value} {T T1 T2 : TypeId} {sz m g1 g2 m1 m2 c1 c2 : Nat} {cs1 cs2 : Array Value} {cs : List Value} {x1 x2 : Operand} (hf : P.funcs[f]? = some fn) (hname : (fn.name == "runtime.NumGoroutine") = false) (hb : fn.body.isSome = true) (hg : o.guard = none) (hd : o.dst = some d) (hn : Nat.blt d n = true)
    (hop : o.op = .call { callee := .value (.func f), args := xs, argTypes := ts }) (hargs : evs l xs.toList = some vs) (hx1 : x1 ∈ xs.toList) (hv1 : ev l x1 = some (.slice (some ⟨g1, 0, none⟩) m1 c1)) (hx2 : x2 ∈ xs.toList) (hv2 : ev l x2 = some (.slice (some ⟨g2, 0, none⟩) m2 c2))
    (hc : ∀ w, Kn O w0 w ((g2, T2, cs2) :: (g1, T1, cs1) :: L) → Calls P f vs.toArray w (NewS T sz cs w)) (hlen : cs.length = m * sz) (hmx : m ≤ maxLen) (hp : pl k = .inr (MadeS T sz cs))
    (h : ∀ g m cap cur, Ap sz m cap cur cs → Y P ops Q n O w0 pl rest (k + 1) ((d, .slice (some ⟨g, 0, none⟩) m cap) :: l) ((g, T, cur) :: (g2, T2, cs2) :: (g1, T1, cs1) :: N) L) : Y P ops Q n O w0 pl (o :: rest) k l ((g2, T2, cs2) :: (g1, T1, cs1) :: N) L := fun a w E hF hL hE => by
  unfold CalmB.wpLex
  rw [if_pos (by simp [Region.wanted, hg])]
  unfold CalmB.pOp
  rw [hp]
  refine ⟨fun N0 => ⟨.slice (some ⟨N0, 0, none⟩) m m, N0, (T, cs.toArray), Nat.le_refl _, m, m, rfl, ⟨hlen, Nat.le_refl _, hmx, by simp [hlen], by simp [← hlen]⟩, rfl⟩, ⟨[(g2, T2, cs2), (g1, T1, cs1)], fun r hr => ?_, fun w' hb' hR => ?_⟩, fun u g x hM hB he => ?_⟩
  · rcases List.mem_cons.1 hr with rfl | hr
    · exact ⟨ment_arg hop hF hx2 hv2, hE.2 _ List.mem_cons_self⟩
    · have e : r = (g1, T1, cs1) := by simpa using hr
      subst e
      exact ⟨ment_arg hop hF hx1 hv1, hE.2 _ (List.mem_cons_of_mem _ List.mem_cons_self)⟩
  · show CalmB.mkAt P o a w' _
    obtain ⟨hB2, hH2⟩ := hR _ List.mem_cons_self
    obtain ⟨hB1, hH1⟩ := hR _ (List.mem_cons_of_mem _ List.mem_cons_self)
    have hne : g1 ≠ g2 := fun e => by
      have := hE.1
      simp only [List.map_cons, List.nodup_cons] at this
      exact this.1 (by rw [e]; exact List.mem_cons_self)
    have hK1 : Kn O w0 w' ((g1, T1, cs1) :: L) := Kn.add (Own.ext hL hb') (Nat.le_trans hL.size hB1) (fun y hy => by
      have := (Array.getElem?_eq_some_iff.1 (hL.has y hy)).1
      have hB' : w.heap.size ≤ g1 := hB1
      omega) hH1
    have hK2 : Kn O w0 w' ((g2, T2, cs2) :: (g1, T1, cs1) :: L) := Kn.add hK1 (Nat.le_trans hL.size hB2) (fun y hy => by
      rcases List.mem_cons.1 hy with rfl | hy
      · exact hne
      · have := (Array.getElem?_eq_some_iff.1 (hL.has y hy)).1
        have hB' : w.heap.size ≤ g2 := hB2
        omega) hH2
    unfold CalmB.mkAt
    rw [run_callc (caps := []) hf hname hb hop rfl (hF.evals hargs) w']
    refine ⟨rfl, ?_⟩
    rw [List.append_nil]
    exact (hc w' hK2).mono fun e w'' ⟨g, m, cap, cur, he, hA, hge, hat, hb⟩ => ⟨_, g, (T, cur), ⟨m, cap, rfl, hA, rfl⟩, he, hge, hat, hb⟩
  · obtain ⟨m', cap, rfl, hA, hT⟩ := hM
    obtain ⟨T', cur⟩ := x
    simp only at hT hA
    subst hT
    rw [hd]
    refine h g m' cap cur hA _ w _ (hF.put hn _) hL ⟨?_, fun b hb => ?_⟩
    · rw [List.map_cons, List.nodup_cons]
      refine ⟨fun hb => ?_, hE.1⟩
      obtain ⟨b, hb, e⟩ := List.mem_map.1 hb
      have := hE.2 b hb; rw [e, he] at this; cases this
    · rcases List.mem_cons.1 hb with rfl | hb
      · exact Calm.upd_same _ _ _
      · rw [Calm.upd_ne _ _ (fun e => by have := hE.2 b hb; rw [e, he] at this; cases this)]; exact hE.2 b hb
end Wk
attribute [local irreducible] Calls Wk.S Wk.C Wk.E Wk.X Wk.T Wk.Y Wk.anV Wk.orV Wk.andV Wk.shlV Wk.shrV Calm.wpLex CalmB.wpLex bfsN

theorem inR_nat {c : Sp} (h : inR c) : ∃ a b : Nat, c = ⟨(a : Int), (b : Int)⟩ ∧ a < 10 ∧ b < 10 := by
  obtain ⟨x, y⟩ := c
  unfold inR at h; simp only at h
  exact ⟨x.toNat, y.toNat, by congr 1 <;> omega, by omega, by omega⟩
theorem Wk.Ap.xy {n cap : Nat} {cur : Array Value} {l : List Sp} (h : Ap 2 n cap cur (flS l)) {i : Nat} {s : Sp} (hi : l[i]? = some s) : cur[0 + i * 2]? = some (.int .i8 s.x) ∧ cur[0 + i * 2 + 1]? = some (.int .i8 s.y) := by
  obtain ⟨h1, h2⟩ := h.spot hi
  have e0 := congrArg (fun a : Array Value => a[0]?) h2
  have e1 := congrArg (fun a : Array Value => a[1]?) h2
  simp only [Array.getElem?_extract] at e0 e1
  rw [if_pos (by omega)] at e0 e1
  exact ⟨e0, e1⟩
def notIn (l : List Sp) (c : Sp) : Bool := !(l.any fun s => eqSp c s)
set_option maxRecDepth 100000 in
theorem commonClo_any (lb : List Sp) (b gb n cap : Nat) (T T' : TypeId) (curb : Array Value) (c : Sp) (w : World) (hbx : w.heap[b]? = some (.cells #[.slice (some ⟨gb, 0, none⟩) lb.length cap] T (0, 0))) (hB : Ap 2 n cap curb (flS lb)) (hgb : w.heap[gb]? = some (.cells curb T' (0, 0))) (hlb : lb.length ≤ 1048576) :
    Calls Try.prog 223 #[.agg #[.int .i8 c.x, .int .i8 c.y], .pointer (some ⟨b, 0, none⟩)] w fun e w' => e = .returned (.bool (notIn lb c)) ∧ Below w.heap.size w w' := by
  have hmx : lb.length ≤ maxLen := by unfold maxLen; omega
  refine enter2 Try.func223 rfl rfl rfl (Own.start w) ?_
  repeat' (first
    | (refine s_g ?_; first
      | (refine s_k 8 rfl ?_; first | refine s_val rfl rfl rfl (r_ldo rfl rfl hbx (by simp) (ldv1 tb rfl rfl)) ?_ | (refine' s_val rfl rfl rfl (r_ldv rfl rfl ?qm ?qv) ?_; (case qm => (first | exact m0 | exact m1 | exact m2 | exact m3 | exact m4 | exact m5 | exact m6 | exact m7 | exact m8 | exact m9 | exact m10 | exact m11)); (case qv => (first | exact ldvL tb rfl rfl | exact ldv1 tb rfl (by assumption) | exact ldvW tb rfl rfl | exact ldvW tb rfl (by assumption) | exact ldvW tb rfl (Pv.size (by assumption)) | exact ldvN tb rfl ext2_0 rfl | exact ldvN tb rfl ext2_2 rfl))) | (refine' s_val rfl rfl rfl (r_ldo rfl rfl ?qw (by simp) ?qv) ?_; (case qw => assumption); (case qv => (first | exact ldvL tb rfl rfl | exact ldv1 tb rfl (by assumption) | exact ldvW tb rfl rfl | exact ldvW tb rfl (by assumption) | exact ldvW tb rfl (Pv.size (by assumption)) | exact ldvN tb rfl ext2_0 rfl | exact ldvN tb rfl ext2_2 rfl))))
      | (refine s_k 1 rfl ?_; refine s_val rfl rfl rfl (r_assign rfl rfl) ?_)
      | (refine s_k 35 rfl ?_; (refine s_call Try.func171 (by kernel_rfl) rfl rfl rfl rfl rfl rfl (fun w hL => hasSpot_any lb c.x c.y _ _ _ (hB.slA (lenSp lb) (Kn.old hL hgb (by simp))) hmx) ?_))
      | (refine s_k 14 rfl ?_; refine s_val rfl rfl rfl (r_not rfl rfl) ?_)
      | (refine s_k 4 rfl ?_; first | refine s_boxA rfl rfl rfl rfl rfl fun blk => ?_ | refine s_box1 rfl rfl rfl rfl rfl rfl fun blk => ?_)
      | refine s_nil ?_)
    | (refine c_g ?_; first | refine c_seq ?_ | refine c_region ?_ | (refine c_gc ?_; first | refine c_cond1 rfl (by first | rfl | assumption | (apply dt1; assumption) | (apply dt0; assumption) | (apply nt1; assumption) | (apply nt0; assumption) | (apply ndt1; assumption) | (apply ndt0; assumption) | (apply dt1; omega) | (apply dt0; omega)) ?_ | refine c_cond0 rfl (by first | rfl | assumption | (apply dt1; assumption) | (apply dt0; assumption) | (apply nt1; assumption) | (apply nt0; assumption) | (apply ndt1; assumption) | (apply ndt0; assumption) | (apply dt1; omega) | (apply dt0; omega)) ?_ | refine c_condd1 rfl (by omega) ?_ | refine c_condd0 rfl (by omega) ?_ | refine c_conddn1 rfl (by omega) ?_ | refine c_conddn0 rfl (by omega) ?_ | refine c_condd rfl (fun hc => ?_) (fun hc => ?_) | refine c_conddn rfl (fun hc => ?_) (fun hc => ?_) | refine c_condn rfl (fun hc => ?_) (fun hc => ?_) | refine c_cond rfl (fun hc => ?_) (fun hc => ?_)) | refine c_block ?_ | refine c_skip ?_ | refine c_exit ?_ | refine c_ret ?_)
    | (refine e_g ?_; first | refine e_then ?_ | refine e_blkn ?_ | refine e_thenx ?_ | refine e_thenr ?_ | refine e_blkr ?_ | refine e_blkx ?_ | refine e_blky rfl ?_)
    | (refine e_ret1 (by simp) rfl (re_tmp rfl) fun w hL => ⟨rfl, hL.toBelow⟩))
def cmnL (la lb : List Sp) : List Sp := la.filter fun c => !notIn lb c
set_option maxRecDepth 100000 in
set_option maxHeartbeats 800000 in
theorem common_any (la lb : List Sp) (ga gb na nb capa capb : Nat) (cura curb : Array Value) (Ta Tb : TypeId) (w : World) (hA : Ap 2 na capa cura (flS la)) (hga : w.heap[ga]? = some (.cells cura Ta (0, 0))) (hB : Ap 2 nb capb curb (flS lb)) (hgb : w.heap[gb]? = some (.cells curb Tb (0, 0))) (hla : la.length ≤ 1048576) (hlb : lb.length ≤ 1048576) :
    Calls Try.prog 153 #[.slice (some ⟨ga, 0, none⟩) la.length capa, .slice (some ⟨gb, 0, none⟩) lb.length capb] w (NewS 38 2 (flS (cmnL la lb)) w) := by
  have hlt := (Array.getElem?_eq_some_iff.1 hgb).1
  refine enter2 Try.func153 rfl rfl rfl (Own.start w) ?_
  repeat' (first
    | (refine s_g ?_; first
      | (refine s_k 0 rfl ?_; refine s_val rfl rfl rfl (r_move rfl rfl) ?_)
      | (refine s_k 1 rfl ?_; refine s_val rfl rfl rfl (r_assign rfl rfl) ?_)
      | (refine s_k 35 rfl ?_; first | (refine s_callN Try.func205 (by kernel_rfl) rfl rfl rfl rfl rfl rfl (fun w hL => clone_any la ga 0 capa w (hA.slA (lenSp la) (Kn.old hL hga (by simp))) hla) fun g k cap cur hC => ?_) | (refine s_callM0 Try.func210 (by kernel_rfl) rfl rfl rfl rfl rfl rfl (fun w hL hg => delS_any la 223 _ [_] (notIn lb) _ _ _ _ w hC hg hla Try.func223 (by kernel_rfl) rfl (fun c hcm w' hb' => commonClo_any lb _ gb nb capb _ _ curb c w' (hb'.blk (hL.at_ m1) (Kn.ne0 hL m0)) hB (hb'.blk (Kn.old hL hgb (by simp)) (by have := hL.low _ List.mem_cons_self; simp at this; omega)) hlb)) fun cs hp => ?_))
      | (refine s_k 4 rfl ?_; first | refine s_boxA rfl rfl rfl rfl rfl fun blk => ?_ | refine s_box1 rfl rfl rfl rfl rfl rfl fun blk => ?_)
      | (refine s_k 18 rfl ?_; refine s_val rfl rfl rfl (r_func rfl rfl rfl) ?_)
      | refine s_nil ?_)
    | (refine c_g ?_; first | refine c_seq ?_ | refine c_region ?_ | (refine c_gc ?_; first | refine c_cond1 rfl (by first | rfl | assumption | (apply dt1; assumption) | (apply dt0; assumption) | (apply nt1; assumption) | (apply nt0; assumption) | (apply ndt1; assumption) | (apply ndt0; assumption) | (apply dt1; omega) | (apply dt0; omega)) ?_ | refine c_cond0 rfl (by first | rfl | assumption | (apply dt1; assumption) | (apply dt0; assumption) | (apply nt1; assumption) | (apply nt0; assumption) | (apply ndt1; assumption) | (apply ndt0; assumption) | (apply dt1; omega) | (apply dt0; omega)) ?_ | refine c_condd1 rfl (by omega) ?_ | refine c_condd0 rfl (by omega) ?_ | refine c_conddn1 rfl (by omega) ?_ | refine c_conddn0 rfl (by omega) ?_ | refine c_condd rfl (fun hc => ?_) (fun hc => ?_) | refine c_conddn rfl (fun hc => ?_) (fun hc => ?_) | refine c_condn rfl (fun hc => ?_) (fun hc => ?_) | refine c_cond rfl (fun hc => ?_) (fun hc => ?_)) | refine c_block ?_ | refine c_skip ?_ | refine c_exit ?_ | refine c_ret ?_)
    | (refine e_g ?_; first | refine e_then ?_ | refine e_blkn ?_ | refine e_thenx ?_ | refine e_thenr ?_ | refine e_blkr ?_ | refine e_blkx ?_ | refine e_blky rfl ?_)
    | (refine e_ret1 (by simp) rfl (re_tmp rfl) fun w hL => NewS.of hp hL m0))
theorem cmn_mask {p : Nat → Int} {a b : Sk} (hsb : b.ok) (ha : p 0 ≤ 10) (hb : p 1 ≤ 10) (hcb : isC (p 0) (p 1) b.x b.y = true) : ∀ c, inR c → (!notIn (reachL p b) c) = tbl (maskF p b) (ci c) := fun c hc => by
  rw [← mask_reach hsb ha hb hcb]
  unfold notIn
  rw [Bool.not_not, Bool.eq_iff_iff, List.any_eq_true]
  constructor
  · rintro ⟨s, hs, he⟩
    have e : c = s := by unfold eqSp at he; simp at he; obtain ⟨x, y⟩ := c; obtain ⟨u, v⟩ := s; simp at he; rw [he.1, he.2]
    subst e
    exact (cellL_mem hs).1
  · intro h
    obtain ⟨h1, h2, h3, h4⟩ := hc
    exact ⟨c, cellL_in h ⟨h1, by omega⟩ ⟨h3, by omega⟩, by unfold eqSp; simp⟩
set_option maxRecDepth 100000 in
set_option maxHeartbeats 1600000 in
theorem l05Common_any (p : Nat → Int) (cs : Array Value) (T : TypeId) (gp : Nat) (a b : Sk) (w : World) (hp : Pv p cs) (hg : w.heap[gp]? = some (.cells cs T (0, 0))) (hsa : a.ok) (hsb : b.ok) (ha : p 0 ≤ 10) (hb : p 1 ≤ 10) (hca : isC (p 0) (p 1) a.x a.y = true) (hcb : isC (p 0) (p 1) b.x b.y = true) :
    Calls Try.prog 152 #[.pointer (some ⟨gp, 0, none⟩), .agg #[.int .i8 a.x, .int .i8 a.y, .int .i16 a.r], .agg #[.int .i8 b.x, .int .i8 b.y, .int .i16 b.r]] w (NewS 38 2 (flS (cmnL (reachL p a) (reachL p b))) w) := by
  have hMa := gbA_ok (tbl (maskF p a))
  have hMb := gbA_ok (tbl (maskF p b))
  have hlen := reachL_len (s := a) ha hb hca
  have hin := reachL_inR (p := p) (s := a) ha hb
  have hcm := cmn_mask (a := a) hsb ha hb hcb
  have hlist := fun (w : World) (g : Nat) (h : w.heap[g]? = some (.cells (gbA (tbl (maskF p a))) 148 (0, 0))) => l05List_any _ _ _ _ w hMa h
  rw [mask_reach hsa ha hb hca] at hlist
  unfold cmnL
  generalize reachL p a = Y at *
  generalize notIn (reachL p b) = q at *
  refine enter3 Try.func152 rfl rfl rfl (Own.start w) ?_
  repeat' (first
    | (refine s_g ?_; first
      | (refine s_k 0 rfl ?_; refine s_val rfl rfl rfl (r_move rfl rfl) ?_)
      | (refine s_k 23 rfl ?_; first | refine s_val rfl rfl rfl (r_field tb rfl rfl rfl) ?_ | refine s_val rfl rfl rfl (r_fieldS tb rfl rfl rfl) ?_)
      | (refine s_k 8 rfl ?_; first | (refine' s_val rfl rfl rfl (r_ldv rfl rfl ?qm ?qv) ?_; (case qm => (first | exact m0 | exact m1 | exact m2 | exact m3 | exact m4 | exact m5 | exact m6 | exact m7 | exact m8 | exact m9 | exact m10 | exact m11)); (case qv => (first | exact ldvL tb rfl rfl | exact ldv1 tb rfl (by assumption) | exact ldvW tb rfl rfl | exact ldvW tb rfl (by assumption) | exact ldvW tb rfl (Pv.size (by assumption)) | exact ldvN tb rfl ext2_0 rfl | exact ldvN tb rfl ext2_2 rfl))) | (refine' s_val rfl rfl rfl (r_ldo rfl rfl ?qw (by simp) ?qv) ?_; (case qw => assumption); (case qv => (first | exact ldvL tb rfl rfl | exact ldv1 tb rfl (by assumption) | exact ldvW tb rfl rfl | exact ldvW tb rfl (by assumption) | exact ldvW tb rfl (Pv.size (by assumption)) | exact ldvN tb rfl ext2_0 rfl | exact ldvN tb rfl ext2_2 rfl))))
      | (refine s_k 1 rfl ?_; refine s_val rfl rfl rfl (r_assign rfl rfl) ?_)
      | (refine s_k 13 rfl ?_; first | refine s_val rfl rfl rfl (r_lss rfl rfl rfl) ?_ | refine s_val rfl rfl rfl (r_add rfl rfl rfl (wrap_in (by simp only [lo, hi]; omega))) ?_)
      | (refine s_k 35 rfl ?_; first | (refine s_call Try.func130 (by kernel_rfl) rfl rfl rfl rfl rfl rfl (fun w hL => l05Mask_any p cs T gp a _ hp (Kn.old hL hg (by simp)) hsa ha hb hca) ?_) | (refine s_call Try.func130 (by kernel_rfl) rfl rfl rfl rfl rfl rfl (fun w hL => l05Mask_any p cs T gp b _ hp (Kn.old hL hg (by simp)) hsb ha hb hcb) ?_) | (refine s_callN Try.func115 (by kernel_rfl) rfl rfl rfl rfl rfl rfl (fun w hL => hlist w _ (hL.at_ m0)) fun gy k capy cury hAy => ?_))
      | (refine s_k 25 rfl ?_; first | refine s_val rfl rfl rfl (r_ixN tb rfl rfl rfl rfl (by omega)) ?_ | refine s_val rfl rfl rfl (r_ixA tb rfl rfl rfl rfl (by omega) (by omega)) ?_ | refine s_val rfl rfl rfl (r_ixO tb rfl rfl rfl rfl (by omega)) ?_)
      | (refine s_k 4 rfl ?_; first | refine s_boxA rfl rfl rfl rfl rfl fun blk => ?_ | refine s_box1 rfl rfl rfl rfl rfl rfl fun blk => ?_)
      | (refine s_k 9 rfl ?_; (first | refine s_st1 tb rfl rfl rfl rfl rfl rfl rfl rfl ?_ | refine s_stA tb rfl rfl rfl rfl (by first | rfl | assumption | (apply Pv.size; assumption)) rfl rfl ?_); (first | refine' st0 ?qs ?_ | refine' st1 ?qs ?_ | refine' st2 ?qs ?_ | refine' st3 ?qs ?_ | refine' st4 ?qs ?_ | refine' st5 ?qs ?_ | refine' st6 ?qs ?_ | refine' st7 ?qs ?_ | refine' st8 ?qs ?_ | refine' st9 ?qs ?_ | refine' st10 ?qs ?_ | refine' st11 ?qs ?_); (case qs => (first | exact setB (gbA_ok _) zFl_ok.size | exact setP zP_pv rfl | exact setP (by assumption) rfl | exact setP (by assumption) (Pv.size (by assumption)) | exact set_whole rfl (by simp [Value.oneCell', Hd.cells, Sp.cells, Sk.cells, Gt.cells]) | exact setl0 rfl | exact setl1 rfl | exact setl2 rfl | exact setl3 rfl | exact setl4 rfl | exact setl5 rfl | exact setl6 rfl | exact setl7 rfl | exact set2_0 rfl rfl | exact set2_2 rfl rfl)))
      | (refine s_k 3 rfl ?_; refine s_allocA (t := 148) rfl zF1010 rfl rfl rfl fun blk => ?_)
      | (refine s_k 36 rfl ?_; refine s_val rfl rfl rfl (r_len tb rfl rfl rfl) ?_)
      | (refine s_k 6 rfl ?_; refine s_bsl rfl rfl (fun w => slSpot0 w) rfl rfl rfl fun blk => ?_)
      | refine s_nil ?_)
    | (refine c_g ?_; first | refine c_seq ?_ | refine c_region ?_ | (refine c_gc ?_; first | refine c_cond1 rfl (by first | rfl | assumption | (apply dt1; assumption) | (apply dt0; assumption) | (apply nt1; assumption) | (apply nt0; assumption) | (apply ndt1; assumption) | (apply ndt0; assumption) | (apply dt1; omega) | (apply dt0; omega)) ?_ | refine c_cond0 rfl (by first | rfl | assumption | (apply dt1; assumption) | (apply dt0; assumption) | (apply nt1; assumption) | (apply nt0; assumption) | (apply ndt1; assumption) | (apply ndt0; assumption) | (apply dt1; omega) | (apply dt0; omega)) ?_ | refine c_condd1 rfl (by omega) ?_ | refine c_condd0 rfl (by omega) ?_ | refine c_conddn1 rfl (by omega) ?_ | refine c_conddn0 rfl (by omega) ?_ | refine c_condd rfl (fun hc => ?_) (fun hc => ?_) | refine c_conddn rfl (fun hc => ?_) (fun hc => ?_) | refine c_condn rfl (fun hc => ?_) (fun hc => ?_) | refine c_cond rfl (fun hc => ?_) (fun hc => ?_)) | refine c_block ?_ | refine c_skip ?_ | refine c_exit ?_ | refine c_ret ?_)
    | (refine e_g ?_; first | refine e_then ?_ | refine e_blkn ?_ | refine e_thenx ?_ | refine e_thenr ?_ | refine e_blkr ?_ | refine e_blkx ?_ | refine e_blky rfl ?_))
  obtain rfl := hAy.cnt
  rename_i b4 b5 b7 b9
  refine c_loop (ι := Nat × Nat × Nat × Array Value) (fun i => Y.length - i.1) (fun i => i.1 ≤ Y.length ∧ Ap 2 ((Y.take i.1).filter fun c => !q c).length i.2.2.1 i.2.2.2 (flS ((Y.take i.1).filter fun c => !q c))) (fun i => [(11, .int .i64 (i.1 : Int)), (10, .slice (some ⟨i.2.1, 0, none⟩) ((Y.take i.1).filter fun c => !q c).length i.2.2.1), (8, .slice (some ⟨gy, 0, none⟩) Y.length capy), (9, .pointer (some ⟨b9, 0, none⟩))]) (fun i => [(i.2.1, 38, i.2.2.2), (b9, 148, gbA (tbl (maskF p b))), (gy, 38, cury), (b7, 148, gbA (tbl (maskF p a))), (b5, 52, #[.int .i8 b.x, .int .i8 b.y, .int .i16 b.r]), (b4, 52, #[.int .i8 a.x, .int .i8 a.y, .int .i16 a.r])]) (0, blk, 0, #[]) ⟨by simp, Ap.nil 2⟩ ?hs rfl ?_
  case hs => (repeat' (first | exact sub_nil | refine sub_cons rfl ?_))
  rintro ⟨k, go, cap, cur⟩ ⟨hk, hA⟩
  simp only at hk hA ⊢
  by_cases hlt : k < Y.length
  · have hx : Y[k]? = some Y[k] := List.getElem?_eq_getElem hlt
    have hcr := hin _ (List.getElem_mem hlt)
    have hfl : ((Y.take k).filter fun c => !q c).length ≤ k := Nat.le_trans (List.length_filter_le _ _) (by simp; omega)
    have hts : ((Y.take (k + 1)).filter fun c => !q c) = ((Y.take k).filter fun c => !q c) ++ if !q Y[k] then [Y[k]] else [] := by
      rw [List.take_add_one, hx, List.filter_append]
      cases hn : q Y[k] <;> simp [hn]
    have hsp := hAy.spot hx
    have hmk := hcm _ hcr
    obtain ⟨hxe, hye⟩ := hAy.xy hx
    generalize Y[k] = c at *
    obtain ⟨u, v, rfl, hu, hv⟩ := inR_nat hcr
    have hld := hMb.at_ (x := u) (y := v) hu hv
    rw [← hmk] at hld
    generalize hF : ((Y.take k).filter fun c => !q c) = F at *
    cases hq : !q ⟨(u : Int), (v : Int)⟩
    all_goals
      rw [hq] at hld hts
      simp only [if_true, Bool.false_eq_true, if_false, List.append_nil] at hts
      repeat' (first
        | (refine s_g ?_; first
      | (refine s_k 0 rfl ?_; refine s_val rfl rfl rfl (r_move rfl rfl) ?_)
      | (refine s_k 23 rfl ?_; first | refine s_val rfl rfl rfl (r_field tb rfl rfl rfl) ?_ | refine s_val rfl rfl rfl (r_fieldS tb rfl rfl rfl) ?_)
      | (refine s_k 8 rfl ?_; first | refine s_val rfl rfl rfl (r_ldN tb rfl rfl m1 rfl hsp.1 hsp.2) ?_ | refine s_val rfl rfl rfl (r_ldN tb rfl rfl m2 rfl hsp.1 hsp.2) ?_ | refine s_val rfl rfl rfl (r_ldN tb rfl rfl m3 rfl hsp.1 hsp.2) ?_ | (refine' s_val rfl rfl rfl (r_ldv rfl rfl ?qm ?qv) ?_; (case qm => (first | exact m0 | exact m1 | exact m2 | exact m3 | exact m4 | exact m5 | exact m6 | exact m7 | exact m8 | exact m9 | exact m10 | exact m11)); (case qv => (first | exact ldvL tb rfl rfl | exact ldv1 tb rfl (by assumption) | exact ldv1 tb rfl (hxe) | exact ldv1 tb rfl (hye) | exact ldv1 tb rfl (hld) | exact ldvW tb rfl rfl | exact ldvW tb rfl (by assumption) | exact ldvW tb rfl (Pv.size (by assumption)) | exact ldvN tb rfl ext2_0 rfl | exact ldvN tb rfl ext2_2 rfl))) | (refine' s_val rfl rfl rfl (r_ldo rfl rfl ?qw (by simp) ?qv) ?_; (case qw => assumption); (case qv => (first | exact ldvL tb rfl rfl | exact ldv1 tb rfl (by assumption) | exact ldv1 tb rfl (hxe) | exact ldv1 tb rfl (hye) | exact ldv1 tb rfl (hld) | exact ldvW tb rfl rfl | exact ldvW tb rfl (by assumption) | exact ldvW tb rfl (Pv.size (by assumption)) | exact ldvN tb rfl ext2_0 rfl | exact ldvN tb rfl ext2_2 rfl))))
      | (refine s_k 1 rfl ?_; refine s_val rfl rfl rfl (r_assign rfl rfl) ?_)
      | (refine s_k 13 rfl ?_; first | refine s_val rfl rfl rfl (r_lss rfl rfl rfl) ?_ | refine s_val rfl rfl rfl (r_add rfl rfl rfl (wrap_in (by simp only [lo, hi]; omega))) ?_)
      | (refine s_k 25 rfl ?_; first | refine s_val rfl rfl rfl (r_ixO tb rfl rfl rfl rfl hlt) ?_ | refine s_val rfl rfl rfl (r_ixN tb rfl rfl rfl rfl (by omega)) ?_ | refine s_val rfl rfl rfl (r_ixA tb rfl rfl rfl rfl (by omega) (by omega)) ?_ | refine s_val rfl rfl rfl (r_ixO tb rfl rfl rfl rfl (by omega)) ?_)
      | (refine s_k 4 rfl ?_; first | refine s_boxA rfl rfl rfl rfl rfl fun blk => ?_ | refine s_box1 rfl rfl rfl rfl rfl rfl fun blk => ?_)
      | (refine s_k 9 rfl ?_; (first | refine s_st1 tb rfl rfl rfl rfl rfl rfl rfl rfl ?_ | refine s_stA tb rfl rfl rfl rfl (by first | rfl | assumption | (apply Pv.size; assumption)) rfl rfl ?_); (first | refine' st0 ?qs ?_ | refine' st1 ?qs ?_ | refine' st2 ?qs ?_ | refine' st3 ?qs ?_ | refine' st4 ?qs ?_ | refine' st5 ?qs ?_ | refine' st6 ?qs ?_ | refine' st7 ?qs ?_ | refine' st8 ?qs ?_ | refine' st9 ?qs ?_ | refine' st10 ?qs ?_ | refine' st11 ?qs ?_); (case qs => (first | exact setP zP_pv rfl | exact setP (by assumption) rfl | exact setP (by assumption) (Pv.size (by assumption)) | exact set_whole rfl (by simp [Value.oneCell', Hd.cells, Sp.cells, Sk.cells, Gt.cells]) | exact setl0 rfl | exact setl1 rfl | exact setl2 rfl | exact setl3 rfl | exact setl4 rfl | exact setl5 rfl | exact setl6 rfl | exact setl7 rfl | exact set2_0 rfl rfl | exact set2_2 rfl rfl)))
      | (refine s_k 36 rfl ?_; first | refine s_app0 hA rfl rfl rfl uSpotS iSpot rfl (by omega) (by simp) (by simp) rfl (by simp [Value.oneCell']) (by unfold maxLen; omega) (by omega) rfl rfl rfl fun go cap cur hA => ?_ | refine s_val rfl rfl rfl (r_len tb rfl rfl rfl) ?_)
      | (refine s_k 6 rfl ?_; refine s_bsl rfl rfl (fun w => slSpot1 _ _ w) rfl rfl rfl fun blk => ?_)
      | refine s_nil ?_)
        | (refine c_g ?_; first | refine c_seq ?_ | refine c_region ?_ | (refine c_gc ?_; first | refine c_cond1 rfl (by first | rfl | assumption | (apply dt1; assumption) | (apply dt0; assumption) | (apply nt1; assumption) | (apply nt0; assumption) | (apply ndt1; assumption) | (apply ndt0; assumption) | (apply dt1; omega) | (apply dt0; omega)) ?_ | refine c_cond0 rfl (by first | rfl | assumption | (apply dt1; assumption) | (apply dt0; assumption) | (apply nt1; assumption) | (apply nt0; assumption) | (apply ndt1; assumption) | (apply ndt0; assumption) | (apply dt1; omega) | (apply dt0; omega)) ?_ | refine c_condd1 rfl (by omega) ?_ | refine c_condd0 rfl (by omega) ?_ | refine c_conddn1 rfl (by omega) ?_ | refine c_conddn0 rfl (by omega) ?_ | refine c_condd rfl (fun hc => ?_) (fun hc => ?_) | refine c_conddn rfl (fun hc => ?_) (fun hc => ?_) | refine c_condn rfl (fun hc => ?_) (fun hc => ?_) | refine c_cond rfl (fun hc => ?_) (fun hc => ?_)) | refine c_block ?_ | refine c_skip ?_ | refine c_exit ?_ | refine c_ret ?_)
        | (refine e_g ?_; first | refine e_then ?_ | refine e_blkn ?_ | refine e_thenx ?_ | refine e_thenr ?_ | refine e_blkr ?_ | refine e_blkx ?_ | refine e_blky rfl ?_)
        | (refine x_g ?_; first
      | (refine x_k 0 rfl ?_; (refine x_val rfl rfl rfl (r_move rfl rfl) ?hp ?_; (case hp => exact rfl)))
      | (refine x_k 23 rfl ?_; first | (refine x_val rfl rfl rfl (r_field tb rfl rfl rfl) ?hp ?_; (case hp => exact rfl)) | (refine x_val rfl rfl rfl (r_fieldS tb rfl rfl rfl) ?hp ?_; (case hp => exact rfl)))
      | (refine x_k 8 rfl ?_; first | (refine x_val rfl rfl rfl (r_ldN tb rfl rfl m1 rfl hsp.1 hsp.2) ?hp ?_; (case hp => exact rfl)) | (refine x_val rfl rfl rfl (r_ldN tb rfl rfl m2 rfl hsp.1 hsp.2) ?hp ?_; (case hp => exact rfl)) | (refine x_val rfl rfl rfl (r_ldN tb rfl rfl m3 rfl hsp.1 hsp.2) ?hp ?_; (case hp => exact rfl)) | (refine' x_val rfl rfl rfl (r_ldv rfl rfl ?qm ?qv) ?hp ?_; (case qm => (first | exact m0 | exact m1 | exact m2 | exact m3 | exact m4 | exact m5 | exact m6 | exact m7 | exact m8 | exact m9 | exact m10 | exact m11)); (case qv => (first | exact ldvL tb rfl rfl | exact ldv1 tb rfl (by assumption) | exact ldv1 tb rfl (hxe) | exact ldv1 tb rfl (hye) | exact ldv1 tb rfl (hld) | exact ldvW tb rfl rfl | exact ldvW tb rfl (by assumption) | exact ldvW tb rfl (Pv.size (by assumption)) | exact ldvN tb rfl ext2_0 rfl | exact ldvN tb rfl ext2_2 rfl)); (case hp => exact rfl)) | (refine' x_val rfl rfl rfl (r_ldo rfl rfl ?qw (by simp) ?qv) ?hp ?_; (case qw => assumption); (case qv => (first | exact ldvL tb rfl rfl | exact ldv1 tb rfl (by assumption) | exact ldv1 tb rfl (hxe) | exact ldv1 tb rfl (hye) | exact ldv1 tb rfl (hld) | exact ldvW tb rfl rfl | exact ldvW tb rfl (by assumption) | exact ldvW tb rfl (Pv.size (by assumption)) | exact ldvN tb rfl ext2_0 rfl | exact ldvN tb rfl ext2_2 rfl)); (case hp => exact rfl)))
      | (refine x_k 1 rfl ?_; (refine x_val rfl rfl rfl (r_assign rfl rfl) ?hp ?_; (case hp => exact rfl)))
      | (refine x_k 13 rfl ?_; first | (refine x_val rfl rfl rfl (r_lss rfl rfl rfl) ?hp ?_; (case hp => exact rfl)) | (refine x_val rfl rfl rfl (r_add rfl rfl rfl (wrap_in (by simp only [lo, hi]; omega))) ?hp ?_; (case hp => exact rfl)))
      | (refine x_k 25 rfl ?_; first | (refine x_val rfl rfl rfl (r_ixO tb rfl rfl rfl rfl hlt) ?hp ?_; (case hp => exact rfl)) | (refine x_val rfl rfl rfl (r_ixN tb rfl rfl rfl rfl (by omega)) ?hp ?_; (case hp => exact rfl)) | (refine x_val rfl rfl rfl (r_ixA tb rfl rfl rfl rfl (by omega) (by omega)) ?hp ?_; (case hp => exact rfl)) | (refine x_val rfl rfl rfl (r_ixO tb rfl rfl rfl rfl (by omega)) ?hp ?_; (case hp => exact rfl)))
      | (refine x_k 4 rfl ?_; (refine x_boxA rfl rfl rfl rfl rfl ?hp (fun blk => ?_); (case hp => exact rfl)))
      | (refine x_k 9 rfl ?_; first | (refine' x_putA0 tb rfl rfl rfl rfl (by first | rfl | assumption | (apply Pv.size; assumption)) ?qs (by first | rfl | assumption | (apply Pv.size; assumption)) rfl rfl ?hp ?_; (case qs => (first | exact setP zP_pv rfl | exact setP (by assumption) rfl | exact setP (by assumption) (Pv.size (by assumption)) | exact set_whole rfl (by simp [Value.oneCell', Hd.cells, Sp.cells, Sk.cells, Gt.cells]) | exact setl0 rfl | exact setl1 rfl | exact setl2 rfl | exact setl3 rfl | exact setl4 rfl | exact setl5 rfl | exact setl6 rfl | exact setl7 rfl | exact set2_0 rfl rfl | exact set2_2 rfl rfl)); (case hp => exact rfl)) | (refine' x_putA1 tb rfl rfl rfl rfl (by first | rfl | assumption | (apply Pv.size; assumption)) ?qs (by first | rfl | assumption | (apply Pv.size; assumption)) rfl rfl ?hp ?_; (case qs => (first | exact setP zP_pv rfl | exact setP (by assumption) rfl | exact setP (by assumption) (Pv.size (by assumption)) | exact set_whole rfl (by simp [Value.oneCell', Hd.cells, Sp.cells, Sk.cells, Gt.cells]) | exact setl0 rfl | exact setl1 rfl | exact setl2 rfl | exact setl3 rfl | exact setl4 rfl | exact setl5 rfl | exact setl6 rfl | exact setl7 rfl | exact set2_0 rfl rfl | exact set2_2 rfl rfl)); (case hp => exact rfl)) | (refine' x_putA2 tb rfl rfl rfl rfl (by first | rfl | assumption | (apply Pv.size; assumption)) ?qs (by first | rfl | assumption | (apply Pv.size; assumption)) rfl rfl ?hp ?_; (case qs => (first | exact setP zP_pv rfl | exact setP (by assumption) rfl | exact setP (by assumption) (Pv.size (by assumption)) | exact set_whole rfl (by simp [Value.oneCell', Hd.cells, Sp.cells, Sk.cells, Gt.cells]) | exact setl0 rfl | exact setl1 rfl | exact setl2 rfl | exact setl3 rfl | exact setl4 rfl | exact setl5 rfl | exact setl6 rfl | exact setl7 rfl | exact set2_0 rfl rfl | exact set2_2 rfl rfl)); (case hp => exact rfl)))
      | (refine x_k 36 rfl ?_; (refine x_val rfl rfl rfl (r_len tb rfl rfl rfl) ?hp ?_; (case hp => exact rfl)))
      | refine x_nil0 ?_
      | refine x_nil ?_)
        | (refine' c_drawX (id := 8) [(Sum.inl _ : Calm.Plan), (Sum.inl _ : Calm.Plan), (Sum.inl _ : Calm.Plan), (Sum.inl _ : Calm.Plan), (Sum.inl _ : Calm.Plan), (Sum.inl _ : Calm.Plan), (Sum.inl _ : Calm.Plan), (Sum.inl _ : Calm.Plan), (Sum.inl _ : Calm.Plan), (Sum.inl _ : Calm.Plan), (Sum.inl _ : Calm.Plan), (Sum.inl _ : Calm.Plan), (Sum.inl _ : Calm.Plan)] (by kernel_rfl) (by kernel_rfl) (by kernel_rfl) ?_)
        | refine e_round (k + 1, go, cap, cur) (by simp; omega) ⟨by simp; omega, ?_⟩ ?_ rfl)
      all_goals first
        | (exact sub_cons rfl (sub_cons' rfl (by simp only; rw [hts] <;> simp) (by repeat' (first | exact sub_nil | refine sub_cons rfl ?_))))
        | (simp only; rw [hts]; exact hA)
        | (simp only; rw [hts, flS_snoc]; simpa [Sp.cells] using hA)
  · have hkl : k = Y.length := by omega
    subst hkl
    rw [List.take_length] at hA ⊢
    repeat' (first
      | (refine s_g ?_; first
      | (refine s_k 0 rfl ?_; refine s_val rfl rfl rfl (r_move rfl rfl) ?_)
      | (refine s_k 23 rfl ?_; first | refine s_val rfl rfl rfl (r_field tb rfl rfl rfl) ?_ | refine s_val rfl rfl rfl (r_fieldS tb rfl rfl rfl) ?_)
      | (refine s_k 8 rfl ?_; first | (refine' s_val rfl rfl rfl (r_ldv rfl rfl ?qm ?qv) ?_; (case qm => (first | exact m0 | exact m1 | exact m2 | exact m3 | exact m4 | exact m5 | exact m6 | exact m7 | exact m8 | exact m9 | exact m10 | exact m11)); (case qv => (first | exact ldvL tb rfl rfl | exact ldv1 tb rfl (by assumption) | exact ldvW tb rfl rfl | exact ldvW tb rfl (by assumption) | exact ldvW tb rfl (Pv.size (by assumption)) | exact ldvN tb rfl ext2_0 rfl | exact ldvN tb rfl ext2_2 rfl))) | (refine' s_val rfl rfl rfl (r_ldo rfl rfl ?qw (by simp) ?qv) ?_; (case qw => assumption); (case qv => (first | exact ldvL tb rfl rfl | exact ldv1 tb rfl (by assumption) | exact ldvW tb rfl rfl | exact ldvW tb rfl (by assumption) | exact ldvW tb rfl (Pv.size (by assumption)) | exact ldvN tb rfl ext2_0 rfl | exact ldvN tb rfl ext2_2 rfl))))
      | (refine s_k 1 rfl ?_; refine s_val rfl rfl rfl (r_assign rfl rfl) ?_)
      | (refine s_k 13 rfl ?_; first | refine s_val rfl rfl rfl (r_lss rfl rfl rfl) ?_ | refine s_val rfl rfl rfl (r_add rfl rfl rfl (wrap_in (by simp only [lo, hi]; omega))) ?_)
      | (refine s_k 25 rfl ?_; first | refine s_val rfl rfl rfl (r_ixN tb rfl rfl rfl rfl (by omega)) ?_ | refine s_val rfl rfl rfl (r_ixA tb rfl rfl rfl rfl (by omega) (by omega)) ?_ | refine s_val rfl rfl rfl (r_ixO tb rfl rfl rfl rfl (by omega)) ?_)
      | (refine s_k 4 rfl ?_; first | refine s_boxA rfl rfl rfl rfl rfl fun blk => ?_ | refine s_box1 rfl rfl rfl rfl rfl rfl fun blk => ?_)
      | (refine s_k 9 rfl ?_; (first | refine s_st1 tb rfl rfl rfl rfl rfl rfl rfl rfl ?_ | refine s_stA tb rfl rfl rfl rfl (by first | rfl | assumption | (apply Pv.size; assumption)) rfl rfl ?_); (first | refine' st0 ?qs ?_ | refine' st1 ?qs ?_ | refine' st2 ?qs ?_ | refine' st3 ?qs ?_ | refine' st4 ?qs ?_ | refine' st5 ?qs ?_ | refine' st6 ?qs ?_ | refine' st7 ?qs ?_ | refine' st8 ?qs ?_ | refine' st9 ?qs ?_ | refine' st10 ?qs ?_ | refine' st11 ?qs ?_); (case qs => (first | exact setP zP_pv rfl | exact setP (by assumption) rfl | exact setP (by assumption) (Pv.size (by assumption)) | exact set_whole rfl (by simp [Value.oneCell', Hd.cells, Sp.cells, Sk.cells, Gt.cells]) | exact setl0 rfl | exact setl1 rfl | exact setl2 rfl | exact setl3 rfl | exact setl4 rfl | exact setl5 rfl | exact setl6 rfl | exact setl7 rfl | exact set2_0 rfl rfl | exact set2_2 rfl rfl)))
      | (refine s_k 36 rfl ?_; refine s_val rfl rfl rfl (r_len tb rfl rfl rfl) ?_)
      | refine s_nil ?_)
      | (refine c_g ?_; first | refine c_seq ?_ | refine c_region ?_ | (refine c_gc ?_; first | refine c_cond1 rfl (by first | rfl | assumption | (apply dt1; assumption) | (apply dt0; assumption) | (apply nt1; assumption) | (apply nt0; assumption) | (apply ndt1; assumption) | (apply ndt0; assumption) | (apply dt1; omega) | (apply dt0; omega)) ?_ | refine c_cond0 rfl (by first | rfl | assumption | (apply dt1; assumption) | (apply dt0; assumption) | (apply nt1; assumption) | (apply nt0; assumption) | (apply ndt1; assumption) | (apply ndt0; assumption) | (apply dt1; omega) | (apply dt0; omega)) ?_ | refine c_condd1 rfl (by omega) ?_ | refine c_condd0 rfl (by omega) ?_ | refine c_conddn1 rfl (by omega) ?_ | refine c_conddn0 rfl (by omega) ?_ | refine c_condd rfl (fun hc => ?_) (fun hc => ?_) | refine c_conddn rfl (fun hc => ?_) (fun hc => ?_) | refine c_condn rfl (fun hc => ?_) (fun hc => ?_) | refine c_cond rfl (fun hc => ?_) (fun hc => ?_)) | refine c_block ?_ | refine c_skip ?_ | refine c_exit ?_ | refine c_ret ?_)
      | (refine e_g ?_; first | refine e_then ?_ | refine e_blkn ?_ | refine e_thenx ?_ | refine e_thenr ?_ | refine e_blkr ?_ | refine e_blkx ?_ | refine e_blky rfl ?_)
      | (refine e_ret1 (by simp) rfl (re_tmp rfl) fun w hL => NewS.of hA hL m0))
end Go.Proofs.Ytfefkkpcjcnmcaa

/- CommonOf: both functions. No condition. -/
namespace Go.Proofs.Ytfefkkpcjcnmcaa
set_option linter.unusedVariables false
set_option linter.unusedSimpArgs false
open Go.RowKit Mem Wk
attribute [local irreducible] Calls Wk.S Wk.C Wk.E Wk.X Wk.T Wk.Y Wk.anV Wk.orV Wk.andV Wk.shlV Wk.shrV Calm.wpLex CalmB.wpLex bfsN

def cmC (p : Nat → Int) (a b : Sk) : Int := if validP p && stOk p a && stOk p b then 0 else 1
theorem cmC_fst (p : Nat → Int) (a b : Sk) : fstC [stkC p a, stkC p b] = cmC p a b := by
  unfold cmC stkC
  cases validP p <;> cases stOk p a <;> cases stOk p b <;> simp [fstC]
theorem cmC0 {p : Nat → Int} {a b : Sk} (h : cmC p a b = 0) : stkC p a = 0 ∧ stkC p b = 0 := by
  unfold cmC at h; unfold stkC
  cases hv : validP p <;> cases ha : stOk p a <;> cases hb : stOk p b <;> simp_all
theorem cmnL_len {p : Nat → Int} {a b : Sk} (ha : p 0 ≤ 10) (hb : p 1 ≤ 10) (hc : isC (p 0) (p 1) a.x a.y = true) : (cmnL (reachL p a) (reachL p b)).length ≤ 100 := Nat.le_trans (List.length_filter_le _ _) (reachL_len ha hb hc)
set_option maxRecDepth 100000 in
set_option maxHeartbeats 800000 in
theorem implCommonOf_ok (p : Nat → Int) (cs : Array Value) (a b : Sk) (w : World) (hp : Pv p cs) (hsa : a.ok) (hsb : b.ok) (h0 : cmC p a b = 0) :
    Calls Try.prog 56 #[.agg cs, .agg #[.int .i8 a.x, .int .i8 a.y, .int .i16 a.r], .agg #[.int .i8 b.x, .int .i8 b.y, .int .i16 b.r]] w (NewS2 38 2 (flS (cmnL (reachL p a) (reachL p b))) 0 w) := by
  have hsz := hp.size
  obtain ⟨ha0, hb0⟩ := cmC0 h0
  have hf0 := cmC_fst p a b
  rw [h0, ha0, hb0] at hf0
  obtain ⟨ha, hb, hca⟩ := stkC0 ha0
  obtain ⟨_, _, hcb⟩ := stkC0 hb0
  have hla := reachL_len (s := a) ha hb hca
  have hlb := reachL_len (s := b) ha hb hcb
  have hlc := cmnL_len (a := a) (b := b) ha hb hca
  have hra := fun w => reach_any p cs a w hp hsa ha hb hca
  have hrb := fun w => reach_any p cs b w hp hsb ha hb hcb
  have hka := fun {g : Nat} {T : TypeId} {w : World} (h : w.heap[g]? = some (.cells #[.int .i8 a.x, .int .i8 a.y, .int .i16 a.r] T (0, 0))) => stakeCode1 hp hsa h
  have hkb := fun {g : Nat} {T : TypeId} {w : World} (h : w.heap[g]? = some (.cells #[.int .i8 b.x, .int .i8 b.y, .int .i16 b.r] T (0, 0))) => stakeCode1 hp hsb h
  rw [ha0] at hka
  rw [hb0] at hkb
  generalize reachL p a = la at *
  generalize reachL p b = lb at *
  have hla2 : la.length ≤ 1048576 := by omega
  have hlb2 : lb.length ≤ 1048576 := by omega
  have hma : la.length ≤ maxLen := by unfold maxLen; omega
  have hmb : lb.length ≤ maxLen := by unfold maxLen; omega
  have hmc : (cmnL la lb).length ≤ maxLen := by unfold maxLen; omega
  refine enter3 Try.func56 rfl rfl rfl (Own.start w) ?_
  repeat' (first
    | (refine s_g ?_; first
      | (refine s_k 0 rfl ?_; refine s_val rfl rfl rfl (r_move rfl rfl) ?_)
      | (refine s_k 8 rfl ?_; first | (refine' s_val rfl rfl rfl (r_ldv rfl rfl ?qm ?qv) ?_; (case qm => (first | exact m0 | exact m1 | exact m2 | exact m3 | exact m4 | exact m5 | exact m6 | exact m7 | exact m8 | exact m9 | exact m10 | exact m11)); (case qv => (first | exact ldvL tb rfl rfl | exact ldv1 tb rfl (by assumption) | exact ldvW tb rfl rfl | exact ldvW tb rfl (by assumption) | exact ldvW tb rfl (Pv.size (by assumption)) | exact ldvN tb rfl ext2_0 rfl | exact ldvN tb rfl ext2_2 rfl))) | (refine' s_val rfl rfl rfl (r_ldo rfl rfl ?qw (by simp) ?qv) ?_; (case qw => assumption); (case qv => (first | exact ldvL tb rfl rfl | exact ldv1 tb rfl (by assumption) | exact ldvW tb rfl rfl | exact ldvW tb rfl (by assumption) | exact ldvW tb rfl (Pv.size (by assumption)) | exact ldvN tb rfl ext2_0 rfl | exact ldvN tb rfl ext2_2 rfl))))
      | (refine s_k 1 rfl ?_; refine s_val rfl rfl rfl (r_assign rfl rfl) ?_)
      | (refine s_k 13 rfl ?_; refine s_val rfl rfl rfl (r_neq rfl rfl rfl) ?_)
      | (refine s_k 4 rfl ?_; first | refine s_boxA rfl rfl rfl rfl rfl fun blk => ?_ | refine s_box1 rfl rfl rfl rfl rfl rfl fun blk => ?_)
      | (refine s_k 6 rfl ?_; first | refine s_bsl rfl rfl (fun w => slStk1 _ _ _ w) rfl rfl rfl fun blk => ?_ | refine s_bsl rfl rfl (fun w => slInt2 _ _ w) rfl rfl rfl fun blk => ?_)
      | refine s_nil ?_)
    | (refine c_g ?_; first | refine c_seq ?_ | refine c_region ?_ | (refine c_gc ?_; first | refine c_cond1 rfl (by first | rfl | assumption | (apply dt1; assumption) | (apply dt0; assumption) | (apply nt1; assumption) | (apply nt0; assumption) | (apply ndt1; assumption) | (apply ndt0; assumption) | (apply dt1; omega) | (apply dt0; omega)) ?_ | refine c_cond0 rfl (by first | rfl | assumption | (apply dt1; assumption) | (apply dt0; assumption) | (apply nt1; assumption) | (apply nt0; assumption) | (apply ndt1; assumption) | (apply ndt0; assumption) | (apply dt1; omega) | (apply dt0; omega)) ?_ | refine c_condd1 rfl (by omega) ?_ | refine c_condd0 rfl (by omega) ?_ | refine c_conddn1 rfl (by omega) ?_ | refine c_conddn0 rfl (by omega) ?_ | refine c_condd rfl (fun hc => ?_) (fun hc => ?_) | refine c_conddn rfl (fun hc => ?_) (fun hc => ?_) | refine c_condn rfl (fun hc => ?_) (fun hc => ?_) | refine c_cond rfl (fun hc => ?_) (fun hc => ?_)) | refine c_block ?_ | refine c_skip ?_ | refine c_exit ?_ | refine c_ret ?_)
    | (refine e_g ?_; first | refine e_then ?_ | refine e_blkn ?_ | refine e_thenx ?_ | refine e_thenr ?_ | refine e_blkr ?_ | refine e_blkx ?_ | refine e_blky rfl ?_)
    | (refine y_g ?_; first
      | (refine y_k 8 rfl ?_; first | (refine' y_val rfl rfl rfl (r_ldv rfl rfl ?qm ?qv) ?hp ?_; (case qm => (first | exact m0 | exact m1 | exact m2 | exact m3 | exact m4 | exact m5 | exact m6 | exact m7 | exact m8 | exact m9 | exact m10 | exact m11)); (case qv => (first | exact ldvL tb rfl rfl | exact ldv1 tb rfl (by assumption) | exact ldvW tb rfl rfl | exact ldvW tb rfl (by assumption) | exact ldvW tb rfl (Pv.size (by assumption)) | exact ldvN tb rfl ext2_0 rfl | exact ldvN tb rfl ext2_2 rfl)); (case hp => exact rfl)) | (refine' y_val rfl rfl rfl (r_ldo rfl rfl ?qw (by simp) ?qv) ?hp ?_; (case qw => assumption); (case qv => (first | exact ldvL tb rfl rfl | exact ldv1 tb rfl (by assumption) | exact ldvW tb rfl rfl | exact ldvW tb rfl (by assumption) | exact ldvW tb rfl (Pv.size (by assumption)) | exact ldvN tb rfl ext2_0 rfl | exact ldvN tb rfl ext2_2 rfl)); (case hp => exact rfl)))
      | (refine y_k 13 rfl ?_; (refine y_val rfl rfl rfl (r_neq rfl rfl rfl) ?hp ?_; (case hp => exact rfl)))
      | (refine y_k 35 rfl ?_; first | (refine' y_rd Try.func126 (by kernel_rfl) rfl rfl rfl rfl rfl rfl List.mem_cons_self (List.mem_cons_of_mem _ List.mem_cons_self) rfl (fun w hL => hka (hL.at_ m0)) ?hp ?_; (case hp => exact rfl)) | (refine' y_rd Try.func126 (by kernel_rfl) rfl rfl rfl rfl rfl rfl List.mem_cons_self (List.mem_cons_of_mem _ List.mem_cons_self) rfl (fun w hL => hkb (hL.at_ m0)) ?hp ?_; (case hp => exact rfl)) | (refine' y_rd Try.func116 (by kernel_rfl) rfl rfl rfl rfl rfl rfl List.mem_cons_self List.mem_cons_self rfl (fun w hL => fo2v hf0 (hL.at_ m0)) ?hp ?_; (case hp => exact rfl)) | (refine' y_callN Try.func128 (by kernel_rfl) rfl rfl rfl rfl rfl rfl (fun w hL => hra w) (flS_len la) hma ?hp (fun g m cap cur hA => ?_); (case hp => exact rfl); obtain rfl := hA.cnt; have hAa := hA) | (refine' y_callN Try.func128 (by kernel_rfl) rfl rfl rfl rfl rfl rfl (fun w hL => hrb w) (flS_len lb) hmb ?hp (fun g m cap cur hA => ?_); (case hp => exact rfl); obtain rfl := hA.cnt; have hAb := hA) | (refine' y_rdN2 Try.func153 (by kernel_rfl) rfl rfl rfl rfl rfl rfl List.mem_cons_self rfl (List.mem_cons_of_mem _ List.mem_cons_self) rfl (fun w hL => common_any la lb _ _ _ _ _ _ _ _ _ _ w hAa (hL.at_ m1) hAb (hL.at_ m0) hla2 hlb2) (flS_len _) hmc ?hp (fun g m cap cur hC => ?_); (case hp => exact rfl)))
      | refine y_nil0 ?_
      | refine y_nil ?_
      | (refine' y_k 0 rfl ?_; (refine' y_move rfl rfl rfl rfl rfl ?hp ?_; (case hp => exact rfl)))
      | (refine' y_k 1 rfl ?_; (refine' y_assign rfl rfl rfl rfl rfl ?hp ?_; (case hp => exact rfl)))
      | (refine' y_k 6 rfl ?_; (refine' y_bsl rfl rfl (fun w => slStk1 _ _ _ w) rfl rfl rfl ?hp (fun blk => ?_); (case hp => exact rfl)))
      | (refine' y_k 6 rfl ?_; (refine' y_bsl rfl rfl (fun w => slInt2 _ _ w) rfl rfl rfl ?hp (fun blk => ?_); (case hp => exact rfl))))
    | (refine' c_drawY (id := 1) [(Sum.inl _ : CalmB.Plan), (Sum.inl _ : CalmB.Plan), (Sum.inr _ : CalmB.Plan), (Sum.inl _ : CalmB.Plan), (Sum.inl _ : CalmB.Plan), (Sum.inl _ : CalmB.Plan), (Sum.inr _ : CalmB.Plan), (Sum.inl _ : CalmB.Plan), (Sum.inr _ : CalmB.Plan), (Sum.inl _ : CalmB.Plan), (Sum.inl _ : CalmB.Plan)] (by kernel_rfl) (by kernel_rfl) ?_)
    | (refine' c_drawY (id := 4) [(Sum.inl _ : CalmB.Plan), (Sum.inl _ : CalmB.Plan), (Sum.inr _ : CalmB.Plan), (Sum.inl _ : CalmB.Plan), (Sum.inl _ : CalmB.Plan), (Sum.inr _ : CalmB.Plan), (Sum.inr _ : CalmB.Plan), (Sum.inl _ : CalmB.Plan), (Sum.inl _ : CalmB.Plan)] (by kernel_rfl) (by kernel_rfl) ?_)
    | (refine e_ret2 (by simp) rfl (re_tmp rfl) (re_tmp rfl) fun w hL => NewS2.of hC hL m0))
set_option maxRecDepth 100000 in
set_option maxHeartbeats 800000 in
theorem implCommonOf_no (p : Nat → Int) (cs : Array Value) (a b : Sk) (w : World) (hp : Pv p cs) (hsa : a.ok) (hsb : b.ok) (h0 : ¬ cmC p a b = 0) :
    Calls Try.prog 56 #[.agg cs, .agg #[.int .i8 a.x, .int .i8 a.y, .int .i16 a.r], .agg #[.int .i8 b.x, .int .i8 b.y, .int .i16 b.r]] w fun e w' => e = .returned (.tuple #[.slice none 0 0, .int .i64 (cmC p a b)]) ∧ Below w.heap.size w w' := by
  have hsz := hp.size
  have hf0 := cmC_fst p a b
  refine enter3 Try.func56 rfl rfl rfl (Own.start w) ?_
  repeat' (first
    | (refine s_g ?_; first
      | (refine s_k 0 rfl ?_; refine s_val rfl rfl rfl (r_move rfl rfl) ?_)
      | (refine s_k 8 rfl ?_; first | (refine' s_val rfl rfl rfl (r_ldv rfl rfl ?qm ?qv) ?_; (case qm => (first | exact m0 | exact m1 | exact m2 | exact m3 | exact m4 | exact m5 | exact m6 | exact m7 | exact m8 | exact m9 | exact m10 | exact m11)); (case qv => (first | exact ldvL tb rfl rfl | exact ldv1 tb rfl (by assumption) | exact ldvW tb rfl rfl | exact ldvW tb rfl (by assumption) | exact ldvW tb rfl (Pv.size (by assumption)) | exact ldvN tb rfl ext2_0 rfl | exact ldvN tb rfl ext2_2 rfl))) | (refine' s_val rfl rfl rfl (r_ldo rfl rfl ?qw (by simp) ?qv) ?_; (case qw => assumption); (case qv => (first | exact ldvL tb rfl rfl | exact ldv1 tb rfl (by assumption) | exact ldvW tb rfl rfl | exact ldvW tb rfl (by assumption) | exact ldvW tb rfl (Pv.size (by assumption)) | exact ldvN tb rfl ext2_0 rfl | exact ldvN tb rfl ext2_2 rfl))))
      | (refine s_k 1 rfl ?_; refine s_val rfl rfl rfl (r_assign rfl rfl) ?_)
      | (refine s_k 13 rfl ?_; refine s_val rfl rfl rfl (r_neq rfl rfl rfl) ?_)
      | (refine s_k 4 rfl ?_; first | refine s_boxA rfl rfl rfl rfl rfl fun blk => ?_ | refine s_box1 rfl rfl rfl rfl rfl rfl fun blk => ?_)
      | (refine s_k 6 rfl ?_; first | refine s_bsl rfl rfl (fun w => slStk1 _ _ _ w) rfl rfl rfl fun blk => ?_ | refine s_bsl rfl rfl (fun w => slInt2 _ _ w) rfl rfl rfl fun blk => ?_)
      | refine s_nil ?_)
    | (refine c_g ?_; first | refine c_seq ?_ | refine c_region ?_ | (refine c_gc ?_; first | refine c_cond1 rfl (by first | rfl | assumption | (apply dt1; assumption) | (apply dt0; assumption) | (apply nt1; assumption) | (apply nt0; assumption) | (apply ndt1; assumption) | (apply ndt0; assumption) | (apply dt1; omega) | (apply dt0; omega)) ?_ | refine c_cond0 rfl (by first | rfl | assumption | (apply dt1; assumption) | (apply dt0; assumption) | (apply nt1; assumption) | (apply nt0; assumption) | (apply ndt1; assumption) | (apply ndt0; assumption) | (apply dt1; omega) | (apply dt0; omega)) ?_ | refine c_condd1 rfl (by omega) ?_ | refine c_condd0 rfl (by omega) ?_ | refine c_conddn1 rfl (by omega) ?_ | refine c_conddn0 rfl (by omega) ?_ | refine c_condd rfl (fun hc => ?_) (fun hc => ?_) | refine c_conddn rfl (fun hc => ?_) (fun hc => ?_) | refine c_condn rfl (fun hc => ?_) (fun hc => ?_) | refine c_cond rfl (fun hc => ?_) (fun hc => ?_)) | refine c_block ?_ | refine c_skip ?_ | refine c_exit ?_ | refine c_ret ?_)
    | (refine e_g ?_; first | refine e_then ?_ | refine e_blkn ?_ | refine e_thenx ?_ | refine e_thenr ?_ | refine e_blkr ?_ | refine e_blkx ?_ | refine e_blky rfl ?_)
    | (refine y_g ?_; first
      | (refine y_k 8 rfl ?_; first | (refine' y_val rfl rfl rfl (r_ldv rfl rfl ?qm ?qv) ?hp ?_; (case qm => (first | exact m0 | exact m1 | exact m2 | exact m3 | exact m4 | exact m5 | exact m6 | exact m7 | exact m8 | exact m9 | exact m10 | exact m11)); (case qv => (first | exact ldvL tb rfl rfl | exact ldv1 tb rfl (by assumption) | exact ldvW tb rfl rfl | exact ldvW tb rfl (by assumption) | exact ldvW tb rfl (Pv.size (by assumption)) | exact ldvN tb rfl ext2_0 rfl | exact ldvN tb rfl ext2_2 rfl)); (case hp => exact rfl)) | (refine' y_val rfl rfl rfl (r_ldo rfl rfl ?qw (by simp) ?qv) ?hp ?_; (case qw => assumption); (case qv => (first | exact ldvL tb rfl rfl | exact ldv1 tb rfl (by assumption) | exact ldvW tb rfl rfl | exact ldvW tb rfl (by assumption) | exact ldvW tb rfl (Pv.size (by assumption)) | exact ldvN tb rfl ext2_0 rfl | exact ldvN tb rfl ext2_2 rfl)); (case hp => exact rfl)))
      | (refine y_k 13 rfl ?_; (refine y_val rfl rfl rfl (r_neq rfl rfl rfl) ?hp ?_; (case hp => exact rfl)))
      | (refine y_k 35 rfl ?_; first | (refine' y_rd Try.func126 (by kernel_rfl) rfl rfl rfl rfl rfl rfl List.mem_cons_self (List.mem_cons_of_mem _ List.mem_cons_self) rfl (fun w hL => stakeCode1 hp hsa (hL.at_ m0)) ?hp ?_; (case hp => exact rfl)) | (refine' y_rd Try.func126 (by kernel_rfl) rfl rfl rfl rfl rfl rfl List.mem_cons_self (List.mem_cons_of_mem _ List.mem_cons_self) rfl (fun w hL => stakeCode1 hp hsb (hL.at_ m0)) ?hp ?_; (case hp => exact rfl)) | (refine' y_rd Try.func116 (by kernel_rfl) rfl rfl rfl rfl rfl rfl List.mem_cons_self List.mem_cons_self rfl (fun w hL => fo2v hf0 (hL.at_ m0)) ?hp ?_; (case hp => exact rfl)))
      | refine y_nil0 ?_
      | refine y_nil ?_
      | (refine' y_k 0 rfl ?_; (refine' y_move rfl rfl rfl rfl rfl ?hp ?_; (case hp => exact rfl)))
      | (refine' y_k 1 rfl ?_; (refine' y_assign rfl rfl rfl rfl rfl ?hp ?_; (case hp => exact rfl)))
      | (refine' y_k 6 rfl ?_; (refine' y_bsl rfl rfl (fun w => slStk1 _ _ _ w) rfl rfl rfl ?hp (fun blk => ?_); (case hp => exact rfl)))
      | (refine' y_k 6 rfl ?_; (refine' y_bsl rfl rfl (fun w => slInt2 _ _ w) rfl rfl rfl ?hp (fun blk => ?_); (case hp => exact rfl))))
    | (refine' c_drawY (id := 1) [(Sum.inl _ : CalmB.Plan), (Sum.inl _ : CalmB.Plan), (Sum.inr _ : CalmB.Plan), (Sum.inl _ : CalmB.Plan), (Sum.inl _ : CalmB.Plan), (Sum.inl _ : CalmB.Plan), (Sum.inr _ : CalmB.Plan), (Sum.inl _ : CalmB.Plan), (Sum.inr _ : CalmB.Plan), (Sum.inl _ : CalmB.Plan), (Sum.inl _ : CalmB.Plan)] (by kernel_rfl) (by kernel_rfl) ?_)
    | (refine e_ret2 (by simp) rfl (re_tmp rfl) (re_tmp rfl) fun w hL => ⟨rfl, hL.toBelow⟩))
set_option maxRecDepth 100000 in
set_option maxHeartbeats 800000 in
theorem specCommonOf_ok (p : Nat → Int) (cs : Array Value) (a b : Sk) (w : World) (hp : Pv p cs) (hsa : a.ok) (hsb : b.ok) (h0 : cmC p a b = 0) :
    Calls Try.prog 55 #[.agg cs, .agg #[.int .i8 a.x, .int .i8 a.y, .int .i16 a.r], .agg #[.int .i8 b.x, .int .i8 b.y, .int .i16 b.r]] w (NewS2 38 2 (flS (cmnL (reachL p a) (reachL p b))) 0 w) := by
  have hsz := hp.size
  obtain ⟨ha0, hb0⟩ := cmC0 h0
  obtain ⟨ha, hb, hca⟩ := stkC0 ha0
  obtain ⟨_, _, hcb⟩ := stkC0 hb0
  have h1 : validP p = true ∧ stOk p a = true ∧ stOk p b = true := by
    unfold cmC at h0
    cases hv : validP p <;> cases hka : stOk p a <;> cases hkb : stOk p b <;> simp_all
  obtain ⟨hv, hka, hkb⟩ := h1
  refine enter3 Try.func55 rfl rfl rfl (Own.start w) ?_
  repeat' (first
    | (refine s_g ?_; first
      | (refine s_gd rfl ?_; first | refine s_gd1 rfl rfl (by first | rfl | assumption | (apply dt1; assumption) | (apply dt0; assumption) | (apply nt1; assumption) | (apply nt0; assumption) | (apply ndt1; assumption) | (apply ndt0; assumption) | (apply dt1; omega) | (apply dt0; omega)) ?_ | refine s_gd0 rfl rfl rfl (by first | rfl | assumption | (apply dt1; assumption) | (apply dt0; assumption) | (apply nt1; assumption) | (apply nt0; assumption) | (apply ndt1; assumption) | (apply ndt0; assumption) | (apply dt1; omega) | (apply dt0; omega)) ?_ | refine s_gd00 rfl rfl (by first | rfl | assumption | (apply dt1; assumption) | (apply dt0; assumption) | (apply nt1; assumption) | (apply nt0; assumption) | (apply ndt1; assumption) | (apply ndt0; assumption) | (apply dt1; omega) | (apply dt0; omega)) ?_ | refine s_gp1 rfl rfl rfl (fun hc => ?_) (fun hc => ?_) | refine s_gp0 rfl rfl rfl (fun hc => ?_) (fun hc => ?_) | refine s_gnp1 rfl rfl rfl (fun hc => ?_) (fun hc => ?_) | refine s_gnp0 rfl rfl rfl (fun hc => ?_) (fun hc => ?_) | refine s_gb1 rfl rfl rfl (fun hc => ?_) (fun hc => ?_) | refine s_gb0 rfl rfl rfl (fun hc => ?_) (fun hc => ?_) | refine s_gnb1 rfl rfl rfl (fun hc => ?_) (fun hc => ?_) | refine s_gnb0 rfl rfl rfl (fun hc => ?_) (fun hc => ?_))
      | (refine s_k 0 rfl ?_; refine s_val rfl rfl rfl (r_move rfl rfl) ?_)
      | (refine s_k 8 rfl ?_; first | (refine' s_val rfl rfl rfl (r_ldv rfl rfl ?qm ?qv) ?_; (case qm => (first | exact m0 | exact m1 | exact m2 | exact m3 | exact m4 | exact m5 | exact m6 | exact m7 | exact m8 | exact m9 | exact m10 | exact m11)); (case qv => (first | exact ldvL tb rfl rfl | exact ldv1 tb rfl (by assumption) | exact ldvW tb rfl rfl | exact ldvW tb rfl (by assumption) | exact ldvW tb rfl (Pv.size (by assumption)) | exact ldvN tb rfl ext2_0 rfl | exact ldvN tb rfl ext2_2 rfl))) | (refine' s_val rfl rfl rfl (r_ldo rfl rfl ?qw (by simp) ?qv) ?_; (case qw => assumption); (case qv => (first | exact ldvL tb rfl rfl | exact ldv1 tb rfl (by assumption) | exact ldvW tb rfl rfl | exact ldvW tb rfl (by assumption) | exact ldvW tb rfl (Pv.size (by assumption)) | exact ldvN tb rfl ext2_0 rfl | exact ldvN tb rfl ext2_2 rfl))))
      | (refine s_k 1 rfl ?_; refine s_val rfl rfl rfl (r_assign rfl rfl) ?_)
      | (refine s_k 35 rfl ?_; first | (refine s_call Try.func135 (by kernel_rfl) rfl rfl rfl rfl rfl rfl (fun w hL => (by have h := l01Ok_any p cs _ _ _ hp (hL.at_ m2); rw [hv] at h; exact h)) ?_) | (refine s_call Try.func151 (by kernel_rfl) rfl rfl rfl rfl rfl rfl (fun w hL => (by have h := l05Stake_any p cs _ _ a _ hp (hL.at_ m2) ha hb hsa; rw [hka] at h; exact h)) ?_) | (refine s_call Try.func151 (by kernel_rfl) rfl rfl rfl rfl rfl rfl (fun w hL => (by have h := l05Stake_any p cs _ _ b _ hp (hL.at_ m2) ha hb hsb; rw [hkb] at h; exact h)) ?_) | (refine s_callN Try.func152 (by kernel_rfl) rfl rfl rfl rfl rfl rfl (fun w hL => l05Common_any p cs _ _ a b w hp (hL.at_ m2) hsa hsb ha hb hca hcb) fun gy k cap cur hA => ?_))
      | (refine s_k 14 rfl ?_; refine s_val rfl rfl rfl (r_not rfl rfl) ?_)
      | (refine s_k 2 rfl ?_; first | refine s_val rfl rfl rfl (r_pick1 rfl rfl (by first | rfl | assumption | (apply dt1; assumption) | (apply dt0; assumption) | (apply nt1; assumption) | (apply nt0; assumption) | (apply ndt1; assumption) | (apply ndt0; assumption) | (apply dt1; omega) | (apply dt0; omega)) rfl) ?_ | refine s_val rfl rfl rfl (r_pick0 rfl rfl (by first | rfl | assumption | (apply dt1; assumption) | (apply dt0; assumption) | (apply nt1; assumption) | (apply nt0; assumption) | (apply ndt1; assumption) | (apply ndt0; assumption) | (apply dt1; omega) | (apply dt0; omega)) rfl) ?_)
      | (refine s_k 4 rfl ?_; first | refine s_boxA rfl rfl rfl rfl rfl fun blk => ?_ | refine s_box1 rfl rfl rfl rfl rfl rfl fun blk => ?_)
      | refine s_nil ?_)
    | (refine c_g ?_; first | refine c_seq ?_ | refine c_region ?_ | (refine c_gc ?_; first | refine c_cond1 rfl (by first | rfl | assumption | (apply dt1; assumption) | (apply dt0; assumption) | (apply nt1; assumption) | (apply nt0; assumption) | (apply ndt1; assumption) | (apply ndt0; assumption) | (apply dt1; omega) | (apply dt0; omega)) ?_ | refine c_cond0 rfl (by first | rfl | assumption | (apply dt1; assumption) | (apply dt0; assumption) | (apply nt1; assumption) | (apply nt0; assumption) | (apply ndt1; assumption) | (apply ndt0; assumption) | (apply dt1; omega) | (apply dt0; omega)) ?_ | refine c_condd1 rfl (by omega) ?_ | refine c_condd0 rfl (by omega) ?_ | refine c_conddn1 rfl (by omega) ?_ | refine c_conddn0 rfl (by omega) ?_ | refine c_condd rfl (fun hc => ?_) (fun hc => ?_) | refine c_conddn rfl (fun hc => ?_) (fun hc => ?_) | refine c_condn rfl (fun hc => ?_) (fun hc => ?_) | refine c_cond rfl (fun hc => ?_) (fun hc => ?_)) | refine c_block ?_ | refine c_skip ?_ | refine c_exit ?_ | refine c_ret ?_)
    | (refine e_g ?_; first | refine e_then ?_ | refine e_blkn ?_ | refine e_thenx ?_ | refine e_thenr ?_ | refine e_blkr ?_ | refine e_blkx ?_ | refine e_blky rfl ?_)
    | (refine e_ret2 (by simp) rfl (re_tmp rfl) (re_tmp rfl) fun w hL => NewS2.of hA hL m0))
set_option maxRecDepth 100000 in
set_option maxHeartbeats 800000 in
theorem specCommonOf_no (p : Nat → Int) (cs : Array Value) (a b : Sk) (w : World) (hp : Pv p cs) (hsa : a.ok) (hsb : b.ok) (h0 : ¬ cmC p a b = 0) :
    Calls Try.prog 55 #[.agg cs, .agg #[.int .i8 a.x, .int .i8 a.y, .int .i16 a.r], .agg #[.int .i8 b.x, .int .i8 b.y, .int .i16 b.r]] w (NewS2 38 2 [] (cmC p a b) w) := by
  have hsz := hp.size
  have h1 : cmC p a b = 1 := by unfold cmC at h0 ⊢; split at h0 <;> simp_all
  rw [h1]
  cases hv : validP p
  case false =>
    refine enter3 Try.func55 rfl rfl rfl (Own.start w) ?_
    repeat' (first
      | (refine s_g ?_; first
      | (refine s_gd rfl ?_; first | refine s_gd1 rfl rfl (by first | rfl | assumption | (apply dt1; assumption) | (apply dt0; assumption) | (apply nt1; assumption) | (apply nt0; assumption) | (apply ndt1; assumption) | (apply ndt0; assumption) | (apply dt1; omega) | (apply dt0; omega)) ?_ | refine s_gd0 rfl rfl rfl (by first | rfl | assumption | (apply dt1; assumption) | (apply dt0; assumption) | (apply nt1; assumption) | (apply nt0; assumption) | (apply ndt1; assumption) | (apply ndt0; assumption) | (apply dt1; omega) | (apply dt0; omega)) ?_ | refine s_gd00 rfl rfl (by first | rfl | assumption | (apply dt1; assumption) | (apply dt0; assumption) | (apply nt1; assumption) | (apply nt0; assumption) | (apply ndt1; assumption) | (apply ndt0; assumption) | (apply dt1; omega) | (apply dt0; omega)) ?_ | refine s_gp1 rfl rfl rfl (fun hc => ?_) (fun hc => ?_) | refine s_gp0 rfl rfl rfl (fun hc => ?_) (fun hc => ?_) | refine s_gnp1 rfl rfl rfl (fun hc => ?_) (fun hc => ?_) | refine s_gnp0 rfl rfl rfl (fun hc => ?_) (fun hc => ?_) | refine s_gb1 rfl rfl rfl (fun hc => ?_) (fun hc => ?_) | refine s_gb0 rfl rfl rfl (fun hc => ?_) (fun hc => ?_) | refine s_gnb1 rfl rfl rfl (fun hc => ?_) (fun hc => ?_) | refine s_gnb0 rfl rfl rfl (fun hc => ?_) (fun hc => ?_))
      | (refine s_k 0 rfl ?_; refine s_val rfl rfl rfl (r_move rfl rfl) ?_)
      | (refine s_k 8 rfl ?_; first | (refine' s_val rfl rfl rfl (r_ldv rfl rfl ?qm ?qv) ?_; (case qm => (first | exact m0 | exact m1 | exact m2 | exact m3 | exact m4 | exact m5 | exact m6 | exact m7 | exact m8 | exact m9 | exact m10 | exact m11)); (case qv => (first | exact ldvL tb rfl rfl | exact ldv1 tb rfl (by assumption) | exact ldvW tb rfl rfl | exact ldvW tb rfl (by assumption) | exact ldvW tb rfl (Pv.size (by assumption)) | exact ldvN tb rfl ext2_0 rfl | exact ldvN tb rfl ext2_2 rfl))) | (refine' s_val rfl rfl rfl (r_ldo rfl rfl ?qw (by simp) ?qv) ?_; (case qw => assumption); (case qv => (first | exact ldvL tb rfl rfl | exact ldv1 tb rfl (by assumption) | exact ldvW tb rfl rfl | exact ldvW tb rfl (by assumption) | exact ldvW tb rfl (Pv.size (by assumption)) | exact ldvN tb rfl ext2_0 rfl | exact ldvN tb rfl ext2_2 rfl))))
      | (refine s_k 1 rfl ?_; refine s_val rfl rfl rfl (r_assign rfl rfl) ?_)
      | (refine s_k 35 rfl ?_; (refine s_call Try.func135 (by kernel_rfl) rfl rfl rfl rfl rfl rfl (fun w hL => (by have h := l01Ok_any p cs _ _ _ hp (hL.at_ m2); rw [hv] at h; exact h)) ?_))
      | (refine s_k 14 rfl ?_; refine s_val rfl rfl rfl (r_not rfl rfl) ?_)
      | (refine s_k 2 rfl ?_; first | refine s_val rfl rfl rfl (r_pick1 rfl rfl (by first | rfl | assumption | (apply dt1; assumption) | (apply dt0; assumption) | (apply nt1; assumption) | (apply nt0; assumption) | (apply ndt1; assumption) | (apply ndt0; assumption) | (apply dt1; omega) | (apply dt0; omega)) rfl) ?_ | refine s_val rfl rfl rfl (r_pick0 rfl rfl (by first | rfl | assumption | (apply dt1; assumption) | (apply dt0; assumption) | (apply nt1; assumption) | (apply nt0; assumption) | (apply ndt1; assumption) | (apply ndt0; assumption) | (apply dt1; omega) | (apply dt0; omega)) rfl) ?_)
      | (refine s_k 4 rfl ?_; first | refine s_boxA rfl rfl rfl rfl rfl fun blk => ?_ | refine s_box1 rfl rfl rfl rfl rfl rfl fun blk => ?_)
      | (refine s_k 6 rfl ?_; refine s_bsl rfl rfl (fun w => slSpot0 w) rfl rfl rfl fun blk => ?_)
      | refine s_nil ?_)
      | (refine c_g ?_; first | refine c_seq ?_ | refine c_region ?_ | (refine c_gc ?_; first | refine c_cond1 rfl (by first | rfl | assumption | (apply dt1; assumption) | (apply dt0; assumption) | (apply nt1; assumption) | (apply nt0; assumption) | (apply ndt1; assumption) | (apply ndt0; assumption) | (apply dt1; omega) | (apply dt0; omega)) ?_ | refine c_cond0 rfl (by first | rfl | assumption | (apply dt1; assumption) | (apply dt0; assumption) | (apply nt1; assumption) | (apply nt0; assumption) | (apply ndt1; assumption) | (apply ndt0; assumption) | (apply dt1; omega) | (apply dt0; omega)) ?_ | refine c_condd1 rfl (by omega) ?_ | refine c_condd0 rfl (by omega) ?_ | refine c_conddn1 rfl (by omega) ?_ | refine c_conddn0 rfl (by omega) ?_ | refine c_condd rfl (fun hc => ?_) (fun hc => ?_) | refine c_conddn rfl (fun hc => ?_) (fun hc => ?_) | refine c_condn rfl (fun hc => ?_) (fun hc => ?_) | refine c_cond rfl (fun hc => ?_) (fun hc => ?_)) | refine c_block ?_ | refine c_skip ?_ | refine c_exit ?_ | refine c_ret ?_)
      | (refine e_g ?_; first | refine e_then ?_ | refine e_blkn ?_ | refine e_thenx ?_ | refine e_thenr ?_ | refine e_blkr ?_ | refine e_blkx ?_ | refine e_blky rfl ?_)
      | (refine e_ret2 (by simp) rfl (re_tmp rfl) (re_tmp rfl) fun w hL => NewS2.of (Ap.nil 2) hL m0))
  case true =>
    obtain ⟨ha, hb⟩ := valid_le2 hv
    cases hka : stOk p a
    case false =>
      refine enter3 Try.func55 rfl rfl rfl (Own.start w) ?_
      repeat' (first
        | (refine s_g ?_; first
      | (refine s_gd rfl ?_; first | refine s_gd1 rfl rfl (by first | rfl | assumption | (apply dt1; assumption) | (apply dt0; assumption) | (apply nt1; assumption) | (apply nt0; assumption) | (apply ndt1; assumption) | (apply ndt0; assumption) | (apply dt1; omega) | (apply dt0; omega)) ?_ | refine s_gd0 rfl rfl rfl (by first | rfl | assumption | (apply dt1; assumption) | (apply dt0; assumption) | (apply nt1; assumption) | (apply nt0; assumption) | (apply ndt1; assumption) | (apply ndt0; assumption) | (apply dt1; omega) | (apply dt0; omega)) ?_ | refine s_gd00 rfl rfl (by first | rfl | assumption | (apply dt1; assumption) | (apply dt0; assumption) | (apply nt1; assumption) | (apply nt0; assumption) | (apply ndt1; assumption) | (apply ndt0; assumption) | (apply dt1; omega) | (apply dt0; omega)) ?_ | refine s_gp1 rfl rfl rfl (fun hc => ?_) (fun hc => ?_) | refine s_gp0 rfl rfl rfl (fun hc => ?_) (fun hc => ?_) | refine s_gnp1 rfl rfl rfl (fun hc => ?_) (fun hc => ?_) | refine s_gnp0 rfl rfl rfl (fun hc => ?_) (fun hc => ?_) | refine s_gb1 rfl rfl rfl (fun hc => ?_) (fun hc => ?_) | refine s_gb0 rfl rfl rfl (fun hc => ?_) (fun hc => ?_) | refine s_gnb1 rfl rfl rfl (fun hc => ?_) (fun hc => ?_) | refine s_gnb0 rfl rfl rfl (fun hc => ?_) (fun hc => ?_))
      | (refine s_k 0 rfl ?_; refine s_val rfl rfl rfl (r_move rfl rfl) ?_)
      | (refine s_k 8 rfl ?_; first | (refine' s_val rfl rfl rfl (r_ldv rfl rfl ?qm ?qv) ?_; (case qm => (first | exact m0 | exact m1 | exact m2 | exact m3 | exact m4 | exact m5 | exact m6 | exact m7 | exact m8 | exact m9 | exact m10 | exact m11)); (case qv => (first | exact ldvL tb rfl rfl | exact ldv1 tb rfl (by assumption) | exact ldvW tb rfl rfl | exact ldvW tb rfl (by assumption) | exact ldvW tb rfl (Pv.size (by assumption)) | exact ldvN tb rfl ext2_0 rfl | exact ldvN tb rfl ext2_2 rfl))) | (refine' s_val rfl rfl rfl (r_ldo rfl rfl ?qw (by simp) ?qv) ?_; (case qw => assumption); (case qv => (first | exact ldvL tb rfl rfl | exact ldv1 tb rfl (by assumption) | exact ldvW tb rfl rfl | exact ldvW tb rfl (by assumption) | exact ldvW tb rfl (Pv.size (by assumption)) | exact ldvN tb rfl ext2_0 rfl | exact ldvN tb rfl ext2_2 rfl))))
      | (refine s_k 1 rfl ?_; refine s_val rfl rfl rfl (r_assign rfl rfl) ?_)
      | (refine s_k 35 rfl ?_; first | (refine s_call Try.func135 (by kernel_rfl) rfl rfl rfl rfl rfl rfl (fun w hL => (by have h := l01Ok_any p cs _ _ _ hp (hL.at_ m2); rw [hv] at h; exact h)) ?_) | (refine s_call Try.func151 (by kernel_rfl) rfl rfl rfl rfl rfl rfl (fun w hL => (by have h := l05Stake_any p cs _ _ a _ hp (hL.at_ m2) ha hb hsa; rw [hka] at h; exact h)) ?_))
      | (refine s_k 14 rfl ?_; refine s_val rfl rfl rfl (r_not rfl rfl) ?_)
      | (refine s_k 2 rfl ?_; first | refine s_val rfl rfl rfl (r_pick1 rfl rfl (by first | rfl | assumption | (apply dt1; assumption) | (apply dt0; assumption) | (apply nt1; assumption) | (apply nt0; assumption) | (apply ndt1; assumption) | (apply ndt0; assumption) | (apply dt1; omega) | (apply dt0; omega)) rfl) ?_ | refine s_val rfl rfl rfl (r_pick0 rfl rfl (by first | rfl | assumption | (apply dt1; assumption) | (apply dt0; assumption) | (apply nt1; assumption) | (apply nt0; assumption) | (apply ndt1; assumption) | (apply ndt0; assumption) | (apply dt1; omega) | (apply dt0; omega)) rfl) ?_)
      | (refine s_k 4 rfl ?_; first | refine s_boxA rfl rfl rfl rfl rfl fun blk => ?_ | refine s_box1 rfl rfl rfl rfl rfl rfl fun blk => ?_)
      | (refine s_k 6 rfl ?_; refine s_bsl rfl rfl (fun w => slSpot0 w) rfl rfl rfl fun blk => ?_)
      | refine s_nil ?_)
        | (refine c_g ?_; first | refine c_seq ?_ | refine c_region ?_ | (refine c_gc ?_; first | refine c_cond1 rfl (by first | rfl | assumption | (apply dt1; assumption) | (apply dt0; assumption) | (apply nt1; assumption) | (apply nt0; assumption) | (apply ndt1; assumption) | (apply ndt0; assumption) | (apply dt1; omega) | (apply dt0; omega)) ?_ | refine c_cond0 rfl (by first | rfl | assumption | (apply dt1; assumption) | (apply dt0; assumption) | (apply nt1; assumption) | (apply nt0; assumption) | (apply ndt1; assumption) | (apply ndt0; assumption) | (apply dt1; omega) | (apply dt0; omega)) ?_ | refine c_condd1 rfl (by omega) ?_ | refine c_condd0 rfl (by omega) ?_ | refine c_conddn1 rfl (by omega) ?_ | refine c_conddn0 rfl (by omega) ?_ | refine c_condd rfl (fun hc => ?_) (fun hc => ?_) | refine c_conddn rfl (fun hc => ?_) (fun hc => ?_) | refine c_condn rfl (fun hc => ?_) (fun hc => ?_) | refine c_cond rfl (fun hc => ?_) (fun hc => ?_)) | refine c_block ?_ | refine c_skip ?_ | refine c_exit ?_ | refine c_ret ?_)
        | (refine e_g ?_; first | refine e_then ?_ | refine e_blkn ?_ | refine e_thenx ?_ | refine e_thenr ?_ | refine e_blkr ?_ | refine e_blkx ?_ | refine e_blky rfl ?_)
        | (refine e_ret2 (by simp) rfl (re_tmp rfl) (re_tmp rfl) fun w hL => NewS2.of (Ap.nil 2) hL m0))
    case true =>
      have hkb : stOk p b = false := by unfold cmC at h0; cases hkb : stOk p b <;> simp_all
      refine enter3 Try.func55 rfl rfl rfl (Own.start w) ?_
      repeat' (first
        | (refine s_g ?_; first
      | (refine s_gd rfl ?_; first | refine s_gd1 rfl rfl (by first | rfl | assumption | (apply dt1; assumption) | (apply dt0; assumption) | (apply nt1; assumption) | (apply nt0; assumption) | (apply ndt1; assumption) | (apply ndt0; assumption) | (apply dt1; omega) | (apply dt0; omega)) ?_ | refine s_gd0 rfl rfl rfl (by first | rfl | assumption | (apply dt1; assumption) | (apply dt0; assumption) | (apply nt1; assumption) | (apply nt0; assumption) | (apply ndt1; assumption) | (apply ndt0; assumption) | (apply dt1; omega) | (apply dt0; omega)) ?_ | refine s_gd00 rfl rfl (by first | rfl | assumption | (apply dt1; assumption) | (apply dt0; assumption) | (apply nt1; assumption) | (apply nt0; assumption) | (apply ndt1; assumption) | (apply ndt0; assumption) | (apply dt1; omega) | (apply dt0; omega)) ?_ | refine s_gp1 rfl rfl rfl (fun hc => ?_) (fun hc => ?_) | refine s_gp0 rfl rfl rfl (fun hc => ?_) (fun hc => ?_) | refine s_gnp1 rfl rfl rfl (fun hc => ?_) (fun hc => ?_) | refine s_gnp0 rfl rfl rfl (fun hc => ?_) (fun hc => ?_) | refine s_gb1 rfl rfl rfl (fun hc => ?_) (fun hc => ?_) | refine s_gb0 rfl rfl rfl (fun hc => ?_) (fun hc => ?_) | refine s_gnb1 rfl rfl rfl (fun hc => ?_) (fun hc => ?_) | refine s_gnb0 rfl rfl rfl (fun hc => ?_) (fun hc => ?_))
      | (refine s_k 0 rfl ?_; refine s_val rfl rfl rfl (r_move rfl rfl) ?_)
      | (refine s_k 8 rfl ?_; first | (refine' s_val rfl rfl rfl (r_ldv rfl rfl ?qm ?qv) ?_; (case qm => (first | exact m0 | exact m1 | exact m2 | exact m3 | exact m4 | exact m5 | exact m6 | exact m7 | exact m8 | exact m9 | exact m10 | exact m11)); (case qv => (first | exact ldvL tb rfl rfl | exact ldv1 tb rfl (by assumption) | exact ldvW tb rfl rfl | exact ldvW tb rfl (by assumption) | exact ldvW tb rfl (Pv.size (by assumption)) | exact ldvN tb rfl ext2_0 rfl | exact ldvN tb rfl ext2_2 rfl))) | (refine' s_val rfl rfl rfl (r_ldo rfl rfl ?qw (by simp) ?qv) ?_; (case qw => assumption); (case qv => (first | exact ldvL tb rfl rfl | exact ldv1 tb rfl (by assumption) | exact ldvW tb rfl rfl | exact ldvW tb rfl (by assumption) | exact ldvW tb rfl (Pv.size (by assumption)) | exact ldvN tb rfl ext2_0 rfl | exact ldvN tb rfl ext2_2 rfl))))
      | (refine s_k 1 rfl ?_; refine s_val rfl rfl rfl (r_assign rfl rfl) ?_)
      | (refine s_k 35 rfl ?_; first | (refine s_call Try.func135 (by kernel_rfl) rfl rfl rfl rfl rfl rfl (fun w hL => (by have h := l01Ok_any p cs _ _ _ hp (hL.at_ m2); rw [hv] at h; exact h)) ?_) | (refine s_call Try.func151 (by kernel_rfl) rfl rfl rfl rfl rfl rfl (fun w hL => (by have h := l05Stake_any p cs _ _ a _ hp (hL.at_ m2) ha hb hsa; rw [hka] at h; exact h)) ?_) | (refine s_call Try.func151 (by kernel_rfl) rfl rfl rfl rfl rfl rfl (fun w hL => (by have h := l05Stake_any p cs _ _ b _ hp (hL.at_ m2) ha hb hsb; rw [hkb] at h; exact h)) ?_))
      | (refine s_k 14 rfl ?_; refine s_val rfl rfl rfl (r_not rfl rfl) ?_)
      | (refine s_k 2 rfl ?_; first | refine s_val rfl rfl rfl (r_pick1 rfl rfl (by first | rfl | assumption | (apply dt1; assumption) | (apply dt0; assumption) | (apply nt1; assumption) | (apply nt0; assumption) | (apply ndt1; assumption) | (apply ndt0; assumption) | (apply dt1; omega) | (apply dt0; omega)) rfl) ?_ | refine s_val rfl rfl rfl (r_pick0 rfl rfl (by first | rfl | assumption | (apply dt1; assumption) | (apply dt0; assumption) | (apply nt1; assumption) | (apply nt0; assumption) | (apply ndt1; assumption) | (apply ndt0; assumption) | (apply dt1; omega) | (apply dt0; omega)) rfl) ?_)
      | (refine s_k 4 rfl ?_; first | refine s_boxA rfl rfl rfl rfl rfl fun blk => ?_ | refine s_box1 rfl rfl rfl rfl rfl rfl fun blk => ?_)
      | (refine s_k 6 rfl ?_; refine s_bsl rfl rfl (fun w => slSpot0 w) rfl rfl rfl fun blk => ?_)
      | refine s_nil ?_)
        | (refine c_g ?_; first | refine c_seq ?_ | refine c_region ?_ | (refine c_gc ?_; first | refine c_cond1 rfl (by first | rfl | assumption | (apply dt1; assumption) | (apply dt0; assumption) | (apply nt1; assumption) | (apply nt0; assumption) | (apply ndt1; assumption) | (apply ndt0; assumption) | (apply dt1; omega) | (apply dt0; omega)) ?_ | refine c_cond0 rfl (by first | rfl | assumption | (apply dt1; assumption) | (apply dt0; assumption) | (apply nt1; assumption) | (apply nt0; assumption) | (apply ndt1; assumption) | (apply ndt0; assumption) | (apply dt1; omega) | (apply dt0; omega)) ?_ | refine c_condd1 rfl (by omega) ?_ | refine c_condd0 rfl (by omega) ?_ | refine c_conddn1 rfl (by omega) ?_ | refine c_conddn0 rfl (by omega) ?_ | refine c_condd rfl (fun hc => ?_) (fun hc => ?_) | refine c_conddn rfl (fun hc => ?_) (fun hc => ?_) | refine c_condn rfl (fun hc => ?_) (fun hc => ?_) | refine c_cond rfl (fun hc => ?_) (fun hc => ?_)) | refine c_block ?_ | refine c_skip ?_ | refine c_exit ?_ | refine c_ret ?_)
        | (refine e_g ?_; first | refine e_then ?_ | refine e_blkn ?_ | refine e_thenx ?_ | refine e_thenr ?_ | refine e_blkr ?_ | refine e_blkx ?_ | refine e_blky rfl ?_)
        | (refine e_ret2 (by simp) rfl (re_tmp rfl) (re_tmp rfl) fun w hL => NewS2.of (Ap.nil 2) hL m0))
end Go.Proofs.Ytfefkkpcjcnmcaa

/- CommonOf: the program's and the reference's return the same, for all arguments: no condition. -/
namespace Go.Proofs.Ytfefkkpcjcnmcaa
set_option linter.unusedVariables false
set_option linter.unusedSimpArgs false
open Go.RowKit Mem Wk
attribute [local irreducible] Calls Wk.S Wk.C Wk.E Wk.X Wk.T Wk.Y Calm.wpLex CalmB.wpLex

set_option maxRecDepth 100000 in
set_option maxHeartbeats 800000 in
theorem FnExactCommonOf_walk (p0 : Nat → Int) (c0 : Array Value) (s1 : Sk) (s2 : Sk) (w : World) (hp0 : Pv p0 c0) (hs1 : s1.ok) (hs2 : s2.ok) :
    Calls Try.prog 12 #[.agg c0, .agg #[.int .i8 s1.x, .int .i8 s1.y, .int .i16 s1.r], .agg #[.int .i8 s2.x, .int .i8 s2.y, .int .i16 s2.r]] w fun e w' => e = .returned (.bool true) ∧ Below w.heap.size w w' := by
  have hsz := hp0.size
  by_cases h0 : cmC p0 s1 s2 = 0
  case pos =>
    obtain ⟨hz1, hz2⟩ := cmC0 h0
    obtain ⟨ha, hb, hc⟩ := stkC0 hz1
    have hlen : (cmnL (reachL p0 s1) (reachL p0 s2)).length ≤ 100 := cmnL_len ha hb hc
    have hlen2 : (cmnL (reachL p0 s1) (reachL p0 s2)).length ≤ 1048576 := by omega
    have hmx : (cmnL (reachL p0 s1) (reachL p0 s2)).length ≤ maxLen := by unfold maxLen; omega
    generalize hl : cmnL (reachL p0 s1) (reachL p0 s2) = l at *
    have hspec : ∀ w, Calls Try.prog 55 #[.agg c0, .agg #[.int .i8 s1.x, .int .i8 s1.y, .int .i16 s1.r], .agg #[.int .i8 s2.x, .int .i8 s2.y, .int .i16 s2.r]] w (NewS2 38 2 (flS l) 0 w) := fun w => by have h := specCommonOf_ok p0 c0 s1 s2 w hp0 hs1 hs2 h0; rw [hl] at h; exact h
    have himpl : ∀ w, Calls Try.prog 56 #[.agg c0, .agg #[.int .i8 s1.x, .int .i8 s1.y, .int .i16 s1.r], .agg #[.int .i8 s2.x, .int .i8 s2.y, .int .i16 s2.r]] w (NewS2 38 2 (flS l) 0 w) := fun w => by have h := implCommonOf_ok p0 c0 s1 s2 w hp0 hs1 hs2 h0; rw [hl] at h; exact h
    refine enter3 Try.func12 rfl rfl rfl (Own.start w) ?_
    repeat' (first
      | (refine s_g ?_; first
      | (refine s_gd rfl ?_; first | refine s_gd1 rfl rfl (by first | rfl | assumption | (apply dt1; assumption) | (apply dt0; assumption) | (apply nt1; assumption) | (apply nt0; assumption) | (apply ndt1; assumption) | (apply ndt0; assumption) | (apply dt1; omega) | (apply dt0; omega)) ?_ | refine s_gd0 rfl rfl rfl (by first | rfl | assumption | (apply dt1; assumption) | (apply dt0; assumption) | (apply nt1; assumption) | (apply nt0; assumption) | (apply ndt1; assumption) | (apply ndt0; assumption) | (apply dt1; omega) | (apply dt0; omega)) ?_ | refine s_gd00 rfl rfl (by first | rfl | assumption | (apply dt1; assumption) | (apply dt0; assumption) | (apply nt1; assumption) | (apply nt0; assumption) | (apply ndt1; assumption) | (apply ndt0; assumption) | (apply dt1; omega) | (apply dt0; omega)) ?_ | refine s_gp1 rfl rfl rfl (fun hc => ?_) (fun hc => ?_) | refine s_gp0 rfl rfl rfl (fun hc => ?_) (fun hc => ?_) | refine s_gnp1 rfl rfl rfl (fun hc => ?_) (fun hc => ?_) | refine s_gnp0 rfl rfl rfl (fun hc => ?_) (fun hc => ?_) | refine s_gb1 rfl rfl rfl (fun hc => ?_) (fun hc => ?_) | refine s_gb0 rfl rfl rfl (fun hc => ?_) (fun hc => ?_) | refine s_gnb1 rfl rfl rfl (fun hc => ?_) (fun hc => ?_) | refine s_gnb0 rfl rfl rfl (fun hc => ?_) (fun hc => ?_))
      | (refine s_k 0 rfl ?_; refine s_val rfl rfl rfl (r_move rfl rfl) ?_)
      | (refine s_k 8 rfl ?_; first | (refine' s_val rfl rfl rfl (r_ldv rfl rfl ?qm ?qv) ?_; (case qm => (first | exact m0 | exact m1 | exact m2 | exact m3 | exact m4 | exact m5 | exact m6 | exact m7 | exact m8 | exact m9 | exact m10 | exact m11)); (case qv => (first | exact ldvL tb rfl rfl | exact ldv1 tb rfl (by assumption) | exact ldvW tb rfl rfl | exact ldvW tb rfl (by assumption) | exact ldvW tb rfl (Pv.size (by assumption)) | exact ldvN tb rfl ext2_0 rfl | exact ldvN tb rfl ext2_2 rfl))) | (refine' s_val rfl rfl rfl (r_ldo rfl rfl ?qw (by simp) ?qv) ?_; (case qw => assumption); (case qv => (first | exact ldvL tb rfl rfl | exact ldv1 tb rfl (by assumption) | exact ldvW tb rfl rfl | exact ldvW tb rfl (by assumption) | exact ldvW tb rfl (Pv.size (by assumption)) | exact ldvN tb rfl ext2_0 rfl | exact ldvN tb rfl ext2_2 rfl))))
      | (refine s_k 1 rfl ?_; refine s_val rfl rfl rfl (r_assign rfl rfl) ?_)
      | (refine s_k 13 rfl ?_; first | refine s_val rfl rfl rfl (r_lss rfl rfl rfl) ?_ | refine s_val rfl rfl rfl (r_neq rfl rfl rfl) ?_)
      | (refine s_k 35 rfl ?_; first | (refine s_call Try.func27 (by kernel_rfl) rfl rfl rfl rfl rfl rfl (fun w hL => toPasture_any p0 c0 _ hp0) ?_) | (refine s_call Try.func37 (by kernel_rfl) rfl rfl rfl rfl rfl rfl (fun w hL => toStake_any _ _ _ _) ?_) | (refine s_call Try.func31 (by kernel_rfl) rfl rfl rfl rfl rfl rfl (fun w hL => eqSpotS_same _ _ l _ (hAq.toSl (lenSp l) (by omega) (hL.at_ m0)) (hAp.toSl (lenSp l) (by omega) (hL.at_ m1)) hlen2) ?_) | (refine s_call Try.func31 (by kernel_rfl) rfl rfl rfl rfl rfl rfl (fun w hL => eqSpotS_same _ _ l _ (hAq.toSl (lenSp l) (by omega) (hL.at_ m0)) (hAr.toSl (lenSp l) (by omega) (hL.at_ m2)) hlen2) ?_) | (refine s_call Try.func35 (by kernel_rfl) rfl rfl rfl rfl rfl rfl (fun w hL => heldSpotS_any _ _ _ _ _ _ hp (hL.at_ m0) hlen2) ?_) | (refine s_call Try.func35 (by kernel_rfl) rfl rfl rfl rfl rfl rfl (fun w hL => heldSpotS_any _ _ _ _ _ _ hp (hL.at_ m1) hlen2) ?_) | (refine s_callN2 Try.func55 (by kernel_rfl) rfl rfl rfl rfl rfl rfl (fun w hL => hspec w) fun g m cap cur hA => ?_; obtain rfl := hA.cnt; have hAq := hA) | (refine s_callN2 Try.func56 (by kernel_rfl) rfl rfl rfl rfl rfl rfl (fun w hL => himpl w) fun g m cap cur hA => ?_; obtain rfl := hA.cnt; (try have hAr := hAp); have hAp := hAq; have hAq := hA) | (refine s_callM0 Try.func34 (by kernel_rfl) rfl rfl rfl rfl rfl rfl (fun w hL hg => markSpotS_any _ _ _ _ _ hAq.fit hg hlen2) fun cs hp => ?_))
      | (refine s_k 14 rfl ?_; refine s_val rfl rfl rfl (r_not rfl rfl) ?_)
      | (refine s_k 2 rfl ?_; first | refine s_val rfl rfl rfl (r_pick1 rfl rfl (by first | rfl | assumption | (apply dt1; assumption) | (apply dt0; assumption) | (apply nt1; assumption) | (apply nt0; assumption) | (apply ndt1; assumption) | (apply ndt0; assumption) | (apply dt1; omega) | (apply dt0; omega)) rfl) ?_ | refine s_val rfl rfl rfl (r_pick0 rfl rfl (by first | rfl | assumption | (apply dt1; assumption) | (apply dt0; assumption) | (apply nt1; assumption) | (apply nt0; assumption) | (apply ndt1; assumption) | (apply ndt0; assumption) | (apply dt1; omega) | (apply dt0; omega)) rfl) ?_)
      | (refine s_k 4 rfl ?_; first | refine s_boxA rfl rfl rfl rfl rfl fun blk => ?_ | refine s_box1 rfl rfl rfl rfl rfl rfl fun blk => ?_)
      | (refine s_k 34 rfl ?_; refine s_val rfl rfl rfl (r_extractL rfl rfl rfl) ?_)
      | refine s_nil ?_)
      | (refine c_g ?_; first | refine c_seq ?_ | refine c_region ?_ | (refine c_gc ?_; first | refine c_cond1 rfl (by first | rfl | assumption | (apply dt1; assumption) | (apply dt0; assumption) | (apply nt1; assumption) | (apply nt0; assumption) | (apply ndt1; assumption) | (apply ndt0; assumption) | (apply dt1; omega) | (apply dt0; omega)) ?_ | refine c_cond0 rfl (by first | rfl | assumption | (apply dt1; assumption) | (apply dt0; assumption) | (apply nt1; assumption) | (apply nt0; assumption) | (apply ndt1; assumption) | (apply ndt0; assumption) | (apply dt1; omega) | (apply dt0; omega)) ?_ | refine c_condd1 rfl (by omega) ?_ | refine c_condd0 rfl (by omega) ?_ | refine c_conddn1 rfl (by omega) ?_ | refine c_conddn0 rfl (by omega) ?_ | refine c_condd rfl (fun hc => ?_) (fun hc => ?_) | refine c_conddn rfl (fun hc => ?_) (fun hc => ?_) | refine c_condn rfl (fun hc => ?_) (fun hc => ?_) | refine c_cond rfl (fun hc => ?_) (fun hc => ?_)) | refine c_block ?_ | refine c_skip ?_ | refine c_exit ?_ | refine c_ret ?_)
      | (refine e_g ?_; first | refine e_then ?_ | refine e_blkn ?_ | refine e_thenx ?_ | refine e_thenr ?_ | refine e_blkr ?_ | refine e_blkx ?_ | refine e_blky rfl ?_)
      | (refine y_g ?_; first
      | (refine y_gd rfl ?_; first | refine y_gd1 rfl rfl (by first | rfl | assumption | (apply dt1; assumption) | (apply dt0; assumption) | (apply nt1; assumption) | (apply nt0; assumption) | (apply ndt1; assumption) | (apply ndt0; assumption) | (apply dt1; omega) | (apply dt0; omega)) ?_ | (refine y_gd0 rfl rfl rfl (by first | rfl | assumption | (apply dt1; assumption) | (apply dt0; assumption) | (apply nt1; assumption) | (apply nt0; assumption) | (apply ndt1; assumption) | (apply ndt0; assumption) | (apply dt1; omega) | (apply dt0; omega)) ?hp ?_; (case hp => exact rfl)))
      | (refine y_k 8 rfl ?_; first | (refine' y_val rfl rfl rfl (r_ldv rfl rfl ?qm ?qv) ?hp ?_; (case qm => (first | exact m0 | exact m1 | exact m2 | exact m3 | exact m4 | exact m5 | exact m6 | exact m7 | exact m8 | exact m9 | exact m10 | exact m11)); (case qv => (first | exact ldvL tb rfl rfl | exact ldv1 tb rfl (by assumption) | exact ldvW tb rfl rfl | exact ldvW tb rfl (by assumption) | exact ldvW tb rfl (Pv.size (by assumption)) | exact ldvN tb rfl ext2_0 rfl | exact ldvN tb rfl ext2_2 rfl)); (case hp => exact rfl)) | (refine' y_val rfl rfl rfl (r_ldo rfl rfl ?qw (by simp) ?qv) ?hp ?_; (case qw => assumption); (case qv => (first | exact ldvL tb rfl rfl | exact ldv1 tb rfl (by assumption) | exact ldvW tb rfl rfl | exact ldvW tb rfl (by assumption) | exact ldvW tb rfl (Pv.size (by assumption)) | exact ldvN tb rfl ext2_0 rfl | exact ldvN tb rfl ext2_2 rfl)); (case hp => exact rfl)))
      | (refine y_k 13 rfl ?_; first | (refine y_val rfl rfl rfl (r_lss rfl rfl rfl) ?hp ?_; (case hp => exact rfl)) | (refine y_val rfl rfl rfl (r_neq rfl rfl rfl) ?hp ?_; (case hp => exact rfl)))
      | (refine y_k 35 rfl ?_; first | (refine y_call Try.func27 (by kernel_rfl) rfl rfl rfl rfl rfl rfl (fun w hL => toPasture_any p0 c0 _ hp0) ?hp ?_; (case hp => exact rfl)) | (refine y_call Try.func37 (by kernel_rfl) rfl rfl rfl rfl rfl rfl (fun w hL => toStake_any _ _ _ _) ?hp ?_; (case hp => exact rfl)) | (refine y_call Try.func31 (by kernel_rfl) rfl rfl rfl rfl rfl rfl (fun w hL => eqSpotS_same _ _ l _ (hAq.toSl (lenSp l) (by omega) (hL.at_ m0)) (hAp.toSl (lenSp l) (by omega) (hL.at_ m1)) hlen2) ?hp ?_; (case hp => exact rfl)) | (refine y_call Try.func31 (by kernel_rfl) rfl rfl rfl rfl rfl rfl (fun w hL => eqSpotS_same _ _ l _ (hAq.toSl (lenSp l) (by omega) (hL.at_ m0)) (hAr.toSl (lenSp l) (by omega) (hL.at_ m2)) hlen2) ?hp ?_; (case hp => exact rfl)) | (refine y_call Try.func35 (by kernel_rfl) rfl rfl rfl rfl rfl rfl (fun w hL => heldSpotS_any _ _ _ _ _ _ hp (hL.at_ m0) hlen2) ?hp ?_; (case hp => exact rfl)) | (refine y_call Try.func35 (by kernel_rfl) rfl rfl rfl rfl rfl rfl (fun w hL => heldSpotS_any _ _ _ _ _ _ hp (hL.at_ m1) hlen2) ?hp ?_; (case hp => exact rfl)) | (refine' y_callN2 Try.func55 (by kernel_rfl) rfl rfl rfl rfl rfl rfl (fun w hL => hspec w) (flS_len l) hmx ?hp (fun g m cap cur hA => ?_); (case hp => exact rfl); obtain rfl := hA.cnt; have hAq := hA) | (refine' y_callN2 Try.func56 (by kernel_rfl) rfl rfl rfl rfl rfl rfl (fun w hL => himpl w) (flS_len l) hmx ?hp (fun g m cap cur hA => ?_); (case hp => exact rfl); obtain rfl := hA.cnt; (try have hAr := hAp); have hAp := hAq; have hAq := hA))
      | (refine y_k 14 rfl ?_; (refine y_val rfl rfl rfl (r_not rfl rfl) ?hp ?_; (case hp => exact rfl)))
      | (refine y_k 2 rfl ?_; first | (refine y_val rfl rfl rfl (r_pick1 rfl rfl (by first | rfl | assumption | (apply dt1; assumption) | (apply dt0; assumption) | (apply nt1; assumption) | (apply nt0; assumption) | (apply ndt1; assumption) | (apply ndt0; assumption) | (apply dt1; omega) | (apply dt0; omega)) rfl) ?hp ?_; (case hp => exact rfl)) | (refine y_val rfl rfl rfl (r_pick0 rfl rfl (by first | rfl | assumption | (apply dt1; assumption) | (apply dt0; assumption) | (apply nt1; assumption) | (apply nt0; assumption) | (apply ndt1; assumption) | (apply ndt0; assumption) | (apply dt1; omega) | (apply dt0; omega)) rfl) ?hp ?_; (case hp => exact rfl)))
      | refine y_nil0 ?_
      | refine y_nil ?_
      | (refine' y_k 0 rfl ?_; (refine' y_move rfl rfl rfl rfl rfl ?hp ?_; (case hp => exact rfl)))
      | (refine' y_k 1 rfl ?_; (refine' y_assign rfl rfl rfl rfl rfl ?hp ?_; (case hp => exact rfl)))
      | (refine' y_k 34 rfl ?_; (refine' y_extract rfl rfl rfl rfl rfl rfl ?hp ?_; (case hp => exact rfl))))
      | (refine' c_drawY (id := 1) [(Sum.inl _ : CalmB.Plan), (Sum.inl _ : CalmB.Plan), (Sum.inl _ : CalmB.Plan), (Sum.inl _ : CalmB.Plan), (Sum.inl _ : CalmB.Plan), (Sum.inl _ : CalmB.Plan), (Sum.inr _ : CalmB.Plan), (Sum.inl _ : CalmB.Plan), (Sum.inl _ : CalmB.Plan), (Sum.inl _ : CalmB.Plan), (Sum.inl _ : CalmB.Plan), (Sum.inl _ : CalmB.Plan)] (by kernel_rfl) (by kernel_rfl) ?_)
      | (refine' c_drawY (id := 2) [(Sum.inl _ : CalmB.Plan), (Sum.inl _ : CalmB.Plan), (Sum.inl _ : CalmB.Plan), (Sum.inl _ : CalmB.Plan), (Sum.inl _ : CalmB.Plan), (Sum.inl _ : CalmB.Plan), (Sum.inr _ : CalmB.Plan), (Sum.inl _ : CalmB.Plan), (Sum.inl _ : CalmB.Plan), (Sum.inl _ : CalmB.Plan), (Sum.inl _ : CalmB.Plan), (Sum.inl _ : CalmB.Plan)] (by kernel_rfl) (by kernel_rfl) ?_)
      | (refine' c_drawY (id := 13) [(Sum.inl _ : CalmB.Plan), (Sum.inl _ : CalmB.Plan), (Sum.inl _ : CalmB.Plan), (Sum.inl _ : CalmB.Plan), (Sum.inl _ : CalmB.Plan), (Sum.inl _ : CalmB.Plan), (Sum.inr _ : CalmB.Plan), (Sum.inl _ : CalmB.Plan), (Sum.inl _ : CalmB.Plan), (Sum.inl _ : CalmB.Plan), (Sum.inl _ : CalmB.Plan), (Sum.inl _ : CalmB.Plan)] (by kernel_rfl) (by kernel_rfl) ?_)
      | (refine e_ret1 (by simp) rfl (re_tmp rfl) fun w hL => ⟨rfl, hL.toBelow⟩))
  case neg =>
    generalize hcc : cmC p0 s1 s2 = cc at *
    have hspec : ∀ w, Calls Try.prog 55 #[.agg c0, .agg #[.int .i8 s1.x, .int .i8 s1.y, .int .i16 s1.r], .agg #[.int .i8 s2.x, .int .i8 s2.y, .int .i16 s2.r]] w (NewS2 38 2 [] cc w) := fun w => by have h := specCommonOf_no p0 c0 s1 s2 w hp0 hs1 hs2 (by rw [hcc]; exact h0); rw [hcc] at h; exact h
    have himpl : ∀ w, Calls Try.prog 56 #[.agg c0, .agg #[.int .i8 s1.x, .int .i8 s1.y, .int .i16 s1.r], .agg #[.int .i8 s2.x, .int .i8 s2.y, .int .i16 s2.r]] w fun e w' => e = .returned (.tuple #[.slice none 0 0, .int .i64 cc]) ∧ Below w.heap.size w w' := fun w => by have h := implCommonOf_no p0 c0 s1 s2 w hp0 hs1 hs2 (by rw [hcc]; exact h0); rw [hcc] at h; exact h
    have hmx : 0 ≤ maxLen := by omega
    have ecc : cc = cc := rfl
    refine enter3 Try.func12 rfl rfl rfl (Own.start w) ?_
    repeat' (first
      | (refine s_g ?_; first
      | (refine s_gd rfl ?_; first | refine s_gd1 rfl rfl (by first | rfl | assumption | (apply dt1; assumption) | (apply dt0; assumption) | (apply nt1; assumption) | (apply nt0; assumption) | (apply ndt1; assumption) | (apply ndt0; assumption) | (apply dt1; omega) | (apply dt0; omega)) ?_ | refine s_gd0 rfl rfl rfl (by first | rfl | assumption | (apply dt1; assumption) | (apply dt0; assumption) | (apply nt1; assumption) | (apply nt0; assumption) | (apply ndt1; assumption) | (apply ndt0; assumption) | (apply dt1; omega) | (apply dt0; omega)) ?_ | refine s_gd00 rfl rfl (by first | rfl | assumption | (apply dt1; assumption) | (apply dt0; assumption) | (apply nt1; assumption) | (apply nt0; assumption) | (apply ndt1; assumption) | (apply ndt0; assumption) | (apply dt1; omega) | (apply dt0; omega)) ?_ | refine s_gp1 rfl rfl rfl (fun hc => ?_) (fun hc => ?_) | refine s_gp0 rfl rfl rfl (fun hc => ?_) (fun hc => ?_) | refine s_gnp1 rfl rfl rfl (fun hc => ?_) (fun hc => ?_) | refine s_gnp0 rfl rfl rfl (fun hc => ?_) (fun hc => ?_) | refine s_gb1 rfl rfl rfl (fun hc => ?_) (fun hc => ?_) | refine s_gb0 rfl rfl rfl (fun hc => ?_) (fun hc => ?_) | refine s_gnb1 rfl rfl rfl (fun hc => ?_) (fun hc => ?_) | refine s_gnb0 rfl rfl rfl (fun hc => ?_) (fun hc => ?_))
      | (refine s_k 0 rfl ?_; refine s_val rfl rfl rfl (r_move rfl rfl) ?_)
      | (refine s_k 8 rfl ?_; first | (refine' s_val rfl rfl rfl (r_ldv rfl rfl ?qm ?qv) ?_; (case qm => (first | exact m0 | exact m1 | exact m2 | exact m3 | exact m4 | exact m5 | exact m6 | exact m7 | exact m8 | exact m9 | exact m10 | exact m11)); (case qv => (first | exact ldvL tb rfl rfl | exact ldv1 tb rfl (by assumption) | exact ldvW tb rfl rfl | exact ldvW tb rfl (by assumption) | exact ldvW tb rfl (Pv.size (by assumption)) | exact ldvN tb rfl ext2_0 rfl | exact ldvN tb rfl ext2_2 rfl))) | (refine' s_val rfl rfl rfl (r_ldo rfl rfl ?qw (by simp) ?qv) ?_; (case qw => assumption); (case qv => (first | exact ldvL tb rfl rfl | exact ldv1 tb rfl (by assumption) | exact ldvW tb rfl rfl | exact ldvW tb rfl (by assumption) | exact ldvW tb rfl (Pv.size (by assumption)) | exact ldvN tb rfl ext2_0 rfl | exact ldvN tb rfl ext2_2 rfl))))
      | (refine s_k 1 rfl ?_; refine s_val rfl rfl rfl (r_assign rfl rfl) ?_)
      | (refine s_k 13 rfl ?_; first | refine s_val rfl rfl rfl (r_lss rfl rfl rfl) ?_ | refine s_val rfl rfl rfl (r_neq rfl rfl rfl) ?_)
      | (refine s_k 35 rfl ?_; first | (refine s_call Try.func27 (by kernel_rfl) rfl rfl rfl rfl rfl rfl (fun w hL => toPasture_any p0 c0 _ hp0) ?_) | (refine s_call Try.func37 (by kernel_rfl) rfl rfl rfl rfl rfl rfl (fun w hL => toStake_any _ _ _ _) ?_) | (refine s_call Try.func56 (by kernel_rfl) rfl rfl rfl rfl rfl rfl (fun w hL => himpl _) ?_) | (refine s_call Try.func31 (by kernel_rfl) rfl rfl rfl rfl rfl rfl (fun w hL => eqSpotS_same _ _ [] _ (sl_nil _ _) (hA.toSl (lenSp []) (by omega) (hL.at_ m0)) (by simp)) ?_) | (refine s_call Try.func34 (by kernel_rfl) rfl rfl rfl rfl rfl rfl (fun w hL => markSpotS_nil _) ?_) | (refine s_call Try.func35 (by kernel_rfl) rfl rfl rfl rfl rfl rfl (fun w hL => heldSpotS_nil _) ?_) | (refine s_callN2 Try.func55 (by kernel_rfl) rfl rfl rfl rfl rfl rfl (fun w hL => hspec w) fun g m cap cur hA => ?_))
      | (refine s_k 14 rfl ?_; refine s_val rfl rfl rfl (r_not rfl rfl) ?_)
      | (refine s_k 2 rfl ?_; first | refine s_val rfl rfl rfl (r_pick1 rfl rfl (by first | rfl | assumption | (apply dt1; assumption) | (apply dt0; assumption) | (apply nt1; assumption) | (apply nt0; assumption) | (apply ndt1; assumption) | (apply ndt0; assumption) | (apply dt1; omega) | (apply dt0; omega)) rfl) ?_ | refine s_val rfl rfl rfl (r_pick0 rfl rfl (by first | rfl | assumption | (apply dt1; assumption) | (apply dt0; assumption) | (apply nt1; assumption) | (apply nt0; assumption) | (apply ndt1; assumption) | (apply ndt0; assumption) | (apply dt1; omega) | (apply dt0; omega)) rfl) ?_)
      | (refine s_k 4 rfl ?_; first | refine s_boxA rfl rfl rfl rfl rfl fun blk => ?_ | refine s_box1 rfl rfl rfl rfl rfl rfl fun blk => ?_)
      | (refine s_k 34 rfl ?_; refine s_val rfl rfl rfl (r_extractL rfl rfl rfl) ?_)
      | refine s_nil ?_)
      | (refine c_g ?_; first | refine c_seq ?_ | refine c_region ?_ | (refine c_gc ?_; first | refine c_cond1 rfl (by first | rfl | assumption | (apply dt1; assumption) | (apply dt0; assumption) | (apply nt1; assumption) | (apply nt0; assumption) | (apply ndt1; assumption) | (apply ndt0; assumption) | (apply dt1; omega) | (apply dt0; omega)) ?_ | refine c_cond0 rfl (by first | rfl | assumption | (apply dt1; assumption) | (apply dt0; assumption) | (apply nt1; assumption) | (apply nt0; assumption) | (apply ndt1; assumption) | (apply ndt0; assumption) | (apply dt1; omega) | (apply dt0; omega)) ?_ | refine c_condd1 rfl (by omega) ?_ | refine c_condd0 rfl (by omega) ?_ | refine c_conddn1 rfl (by omega) ?_ | refine c_conddn0 rfl (by omega) ?_ | refine c_condd rfl (fun hc => ?_) (fun hc => ?_) | refine c_conddn rfl (fun hc => ?_) (fun hc => ?_) | refine c_condn rfl (fun hc => ?_) (fun hc => ?_) | refine c_cond rfl (fun hc => ?_) (fun hc => ?_)) | refine c_block ?_ | refine c_skip ?_ | refine c_exit ?_ | refine c_ret ?_)
      | (refine e_g ?_; first | refine e_then ?_ | refine e_blkn ?_ | refine e_thenx ?_ | refine e_thenr ?_ | refine e_blkr ?_ | refine e_blkx ?_ | refine e_blky rfl ?_)
      | (refine x_g ?_; first
      | (refine x_gd rfl ?_; first | refine x_gd1 rfl rfl (by first | rfl | assumption | (apply dt1; assumption) | (apply dt0; assumption) | (apply nt1; assumption) | (apply nt0; assumption) | (apply ndt1; assumption) | (apply ndt0; assumption) | (apply dt1; omega) | (apply dt0; omega)) ?_ | (refine x_gd0 rfl rfl rfl (by first | rfl | assumption | (apply dt1; assumption) | (apply dt0; assumption) | (apply nt1; assumption) | (apply nt0; assumption) | (apply ndt1; assumption) | (apply ndt0; assumption) | (apply dt1; omega) | (apply dt0; omega)) ?hp ?_; (case hp => exact rfl)))
      | (refine x_k 0 rfl ?_; (refine x_val rfl rfl rfl (r_move rfl rfl) ?hp ?_; (case hp => exact rfl)))
      | (refine x_k 8 rfl ?_; first | (refine' x_val rfl rfl rfl (r_ldv rfl rfl ?qm ?qv) ?hp ?_; (case qm => (first | exact m0 | exact m1 | exact m2 | exact m3 | exact m4 | exact m5 | exact m6 | exact m7 | exact m8 | exact m9 | exact m10 | exact m11)); (case qv => (first | exact ldvL tb rfl rfl | exact ldv1 tb rfl (by assumption) | exact ldvW tb rfl rfl | exact ldvW tb rfl (by assumption) | exact ldvW tb rfl (Pv.size (by assumption)) | exact ldvN tb rfl ext2_0 rfl | exact ldvN tb rfl ext2_2 rfl)); (case hp => exact rfl)) | (refine' x_val rfl rfl rfl (r_ldo rfl rfl ?qw (by simp) ?qv) ?hp ?_; (case qw => assumption); (case qv => (first | exact ldvL tb rfl rfl | exact ldv1 tb rfl (by assumption) | exact ldvW tb rfl rfl | exact ldvW tb rfl (by assumption) | exact ldvW tb rfl (Pv.size (by assumption)) | exact ldvN tb rfl ext2_0 rfl | exact ldvN tb rfl ext2_2 rfl)); (case hp => exact rfl)))
      | (refine x_k 1 rfl ?_; (refine x_val rfl rfl rfl (r_assign rfl rfl) ?hp ?_; (case hp => exact rfl)))
      | (refine x_k 13 rfl ?_; first | (refine x_val rfl rfl rfl (r_lss rfl rfl rfl) ?hp ?_; (case hp => exact rfl)) | (refine x_val rfl rfl rfl (r_neq rfl rfl rfl) ?hp ?_; (case hp => exact rfl)))
      | (refine x_k 35 rfl ?_; first | (refine x_call Try.func27 (by kernel_rfl) rfl rfl rfl rfl rfl rfl (fun w hL => toPasture_any p0 c0 _ hp0) ?hp ?_; (case hp => exact rfl)) | (refine x_call Try.func37 (by kernel_rfl) rfl rfl rfl rfl rfl rfl (fun w hL => toStake_any _ _ _ _) ?hp ?_; (case hp => exact rfl)) | (refine x_call Try.func56 (by kernel_rfl) rfl rfl rfl rfl rfl rfl (fun w hL => himpl _) ?hp ?_; (case hp => exact rfl)) | (refine x_call Try.func31 (by kernel_rfl) rfl rfl rfl rfl rfl rfl (fun w hL => eqSpotS_same _ _ [] _ (sl_nil _ _) (hA.toSl (lenSp []) (by omega) (hL.at_ m0)) (by simp)) ?hp ?_; (case hp => exact rfl)) | (refine x_call Try.func34 (by kernel_rfl) rfl rfl rfl rfl rfl rfl (fun w hL => markSpotS_nil _) ?hp ?_; (case hp => exact rfl)) | (refine x_call Try.func35 (by kernel_rfl) rfl rfl rfl rfl rfl rfl (fun w hL => heldSpotS_nil _) ?hp ?_; (case hp => exact rfl)))
      | (refine x_k 14 rfl ?_; (refine x_val rfl rfl rfl (r_not rfl rfl) ?hp ?_; (case hp => exact rfl)))
      | (refine x_k 2 rfl ?_; first | (refine x_val rfl rfl rfl (r_pick1 rfl rfl (by first | rfl | assumption | (apply dt1; assumption) | (apply dt0; assumption) | (apply nt1; assumption) | (apply nt0; assumption) | (apply ndt1; assumption) | (apply ndt0; assumption) | (apply dt1; omega) | (apply dt0; omega)) rfl) ?hp ?_; (case hp => exact rfl)) | (refine x_val rfl rfl rfl (r_pick0 rfl rfl (by first | rfl | assumption | (apply dt1; assumption) | (apply dt0; assumption) | (apply nt1; assumption) | (apply nt0; assumption) | (apply ndt1; assumption) | (apply ndt0; assumption) | (apply dt1; omega) | (apply dt0; omega)) rfl) ?hp ?_; (case hp => exact rfl)))
      | (refine x_k 4 rfl ?_; (refine x_boxA rfl rfl rfl rfl rfl ?hp (fun blk => ?_); (case hp => exact rfl)))
      | (refine x_k 34 rfl ?_; (refine x_val rfl rfl rfl (r_extractL rfl rfl rfl) ?hp ?_; (case hp => exact rfl)))
      | refine x_nil0 ?_
      | refine x_nil ?_)
      | (refine' c_drawX (id := 2) [(Sum.inl _ : Calm.Plan), (Sum.inl _ : Calm.Plan), (Sum.inl _ : Calm.Plan), (Sum.inl _ : Calm.Plan), (Sum.inl _ : Calm.Plan), (Sum.inl _ : Calm.Plan), (Sum.inl _ : Calm.Plan), (Sum.inl _ : Calm.Plan), (Sum.inl _ : Calm.Plan), (Sum.inl _ : Calm.Plan), (Sum.inl _ : Calm.Plan), (Sum.inl _ : Calm.Plan)] (by kernel_rfl) (by kernel_rfl) (by kernel_rfl) ?_)
      | (refine' c_drawX (id := 13) [(Sum.inl _ : Calm.Plan), (Sum.inl _ : Calm.Plan), (Sum.inl _ : Calm.Plan), (Sum.inl _ : Calm.Plan), (Sum.inl _ : Calm.Plan), (Sum.inl _ : Calm.Plan), (Sum.inl _ : Calm.Plan), (Sum.inl _ : Calm.Plan), (Sum.inl _ : Calm.Plan), (Sum.inl _ : Calm.Plan), (Sum.inl _ : Calm.Plan), (Sum.inl _ : Calm.Plan)] (by kernel_rfl) (by kernel_rfl) (by kernel_rfl) ?_)
      | (refine y_g ?_; first
      | (refine y_gd rfl ?_; first | refine y_gd1 rfl rfl (by first | rfl | assumption | (apply dt1; assumption) | (apply dt0; assumption) | (apply nt1; assumption) | (apply nt0; assumption) | (apply ndt1; assumption) | (apply ndt0; assumption) | (apply dt1; omega) | (apply dt0; omega)) ?_ | (refine y_gd0 rfl rfl rfl (by first | rfl | assumption | (apply dt1; assumption) | (apply dt0; assumption) | (apply nt1; assumption) | (apply nt0; assumption) | (apply ndt1; assumption) | (apply ndt0; assumption) | (apply dt1; omega) | (apply dt0; omega)) ?hp ?_; (case hp => exact rfl)))
      | (refine y_k 8 rfl ?_; first | (refine' y_val rfl rfl rfl (r_ldv rfl rfl ?qm ?qv) ?hp ?_; (case qm => (first | exact m0 | exact m1 | exact m2 | exact m3 | exact m4 | exact m5 | exact m6 | exact m7 | exact m8 | exact m9 | exact m10 | exact m11)); (case qv => (first | exact ldvL tb rfl rfl | exact ldv1 tb rfl (by assumption) | exact ldvW tb rfl rfl | exact ldvW tb rfl (by assumption) | exact ldvW tb rfl (Pv.size (by assumption)) | exact ldvN tb rfl ext2_0 rfl | exact ldvN tb rfl ext2_2 rfl)); (case hp => exact rfl)) | (refine' y_val rfl rfl rfl (r_ldo rfl rfl ?qw (by simp) ?qv) ?hp ?_; (case qw => assumption); (case qv => (first | exact ldvL tb rfl rfl | exact ldv1 tb rfl (by assumption) | exact ldvW tb rfl rfl | exact ldvW tb rfl (by assumption) | exact ldvW tb rfl (Pv.size (by assumption)) | exact ldvN tb rfl ext2_0 rfl | exact ldvN tb rfl ext2_2 rfl)); (case hp => exact rfl)))
      | (refine y_k 13 rfl ?_; first | (refine y_val rfl rfl rfl (r_lss rfl rfl rfl) ?hp ?_; (case hp => exact rfl)) | (refine y_val rfl rfl rfl (r_neq rfl rfl rfl) ?hp ?_; (case hp => exact rfl)))
      | (refine y_k 35 rfl ?_; first | (refine y_call Try.func27 (by kernel_rfl) rfl rfl rfl rfl rfl rfl (fun w hL => toPasture_any p0 c0 _ hp0) ?hp ?_; (case hp => exact rfl)) | (refine y_call Try.func37 (by kernel_rfl) rfl rfl rfl rfl rfl rfl (fun w hL => toStake_any _ _ _ _) ?hp ?_; (case hp => exact rfl)) | (refine y_call Try.func56 (by kernel_rfl) rfl rfl rfl rfl rfl rfl (fun w hL => himpl _) ?hp ?_; (case hp => exact rfl)) | (refine y_call Try.func31 (by kernel_rfl) rfl rfl rfl rfl rfl rfl (fun w hL => eqSpotS_same _ _ [] _ (sl_nil _ _) (hA.toSl (lenSp []) (by omega) (hL.at_ m0)) (by simp)) ?hp ?_; (case hp => exact rfl)) | (refine y_call Try.func34 (by kernel_rfl) rfl rfl rfl rfl rfl rfl (fun w hL => markSpotS_nil _) ?hp ?_; (case hp => exact rfl)) | (refine y_call Try.func35 (by kernel_rfl) rfl rfl rfl rfl rfl rfl (fun w hL => heldSpotS_nil _) ?hp ?_; (case hp => exact rfl)) | (refine' y_callN2 (m := 0) Try.func55 (by kernel_rfl) rfl rfl rfl rfl rfl rfl (fun w hL => hspec w) rfl hmx ?hp (fun g m cap cur hA => ?_); (case hp => exact rfl)))
      | (refine y_k 14 rfl ?_; (refine y_val rfl rfl rfl (r_not rfl rfl) ?hp ?_; (case hp => exact rfl)))
      | (refine y_k 2 rfl ?_; first | (refine y_val rfl rfl rfl (r_pick1 rfl rfl (by first | rfl | assumption | (apply dt1; assumption) | (apply dt0; assumption) | (apply nt1; assumption) | (apply nt0; assumption) | (apply ndt1; assumption) | (apply ndt0; assumption) | (apply dt1; omega) | (apply dt0; omega)) rfl) ?hp ?_; (case hp => exact rfl)) | (refine y_val rfl rfl rfl (r_pick0 rfl rfl (by first | rfl | assumption | (apply dt1; assumption) | (apply dt0; assumption) | (apply nt1; assumption) | (apply nt0; assumption) | (apply ndt1; assumption) | (apply ndt0; assumption) | (apply dt1; omega) | (apply dt0; omega)) rfl) ?hp ?_; (case hp => exact rfl)))
      | refine y_nil0 ?_
      | refine y_nil ?_
      | (refine' y_k 0 rfl ?_; (refine' y_move rfl rfl rfl rfl rfl ?hp ?_; (case hp => exact rfl)))
      | (refine' y_k 1 rfl ?_; (refine' y_assign rfl rfl rfl rfl rfl ?hp ?_; (case hp => exact rfl)))
      | (refine' y_k 34 rfl ?_; (refine' y_extract rfl rfl rfl rfl rfl rfl ?hp ?_; (case hp => exact rfl))))
      | (refine' c_drawY (id := 1) [(Sum.inl _ : CalmB.Plan), (Sum.inl _ : CalmB.Plan), (Sum.inl _ : CalmB.Plan), (Sum.inl _ : CalmB.Plan), (Sum.inl _ : CalmB.Plan), (Sum.inl _ : CalmB.Plan), (Sum.inr _ : CalmB.Plan), (Sum.inl _ : CalmB.Plan), (Sum.inl _ : CalmB.Plan), (Sum.inl _ : CalmB.Plan), (Sum.inl _ : CalmB.Plan), (Sum.inl _ : CalmB.Plan)] (by kernel_rfl) (by kernel_rfl) ?_)
      | (refine e_ret1 (by simp) rfl (re_tmp rfl) fun w hL => ⟨rfl, hL.toBelow⟩))
namespace FnExactCommonOfRow
open Go.ChangeShapes Go.WideShapes Go.ChangeAt Go.RowKit
theorem own : ownKnob Try.prog.godebug = none := by kernel_rfl
theorem laidOut : laidOutB Try.prog = true := by kernel_rfl
set_option maxRecDepth 100000 in
set_option maxHeartbeats 1000000 in
theorem lifted (os : Os) (started : os.Started) (H : Type) (enc : TypeId × Value → H) :
    ReturnsInHanded {} Try.checked os 12 .any (Rows.fnExactCommonOfSpec.pre6 enc Try.prog Try.f12 Rows.fnExactCommonOfRow.domain false) (Rows.fnExactCommonOfSpec.post enc Try.prog Try.f12 false true false false) := by
  refine returnsInHanded_of_change (C := Try.checked) own started (by kernel_rfl) Try.func12
    (ChangeSpec.witness6 (enc := enc) (C := Try.checked) false ⟨#[], #[.agg zP, .agg #[.int .i8 0, .int .i8 0, .int .i16 0], .agg #[.int .i8 0, .int .i8 0, .int .i16 0]], []⟩ 8 (by kernel_rfl) (by kernel_rfl) (by kernel_rfl) (by kernel_rfl)) ?_
  intro W base args ds gs before hval0 hW hcnd _
  have hval : ∀ (j : Nat) t v, Try.f12.params[j]? = some t → args[j]? = some v → Value.okWide Try.prog W .any base t v := hval0
  have hW' := hW
  obtain ⟨p, q, hA0, hV, rfl, hfz, hnd⟩ := hW
  have hA : DataW.TrodAll enc Try.prog W 0 (fun _ => true) true Try.f12.params.toList args.toList ds p := hA0
  rw [Try.params12] at hA hval
  obtain ⟨v0, vs0, d0, ds0, p0, q0, hargs, rfl, rfl, h0, r0⟩ := trodAll_cons hA
  obtain ⟨v1, vs1, d1, ds1, p1, q1, rfl, rfl, rfl, h1, r1⟩ := trodAll_cons r0
  obtain ⟨v2, vs2, d2, ds2, p2, q2, rfl, rfl, rfl, h2, r2⟩ := trodAll_cons r1
  obtain ⟨rfl, rfl, rfl⟩ := trodAll_nil r2
  obtain rfl : args = #[v0, v1, v2] := by cases args; simp_all
  obtain ⟨rfl, rfl⟩ := trodVars_none hV
  have k0 := h0
  have lt0 : ∀ x ∈ p0, x.block < W.heap.size := by obtain ⟨m, hm⟩ := k0; exact DataW.trod_lt m _ _ _ hm
  have k1 := h1
  have lt1 : ∀ x ∈ p1, x.block < W.heap.size := by obtain ⟨m, hm⟩ := k1; exact DataW.trod_lt m _ _ _ hm
  have k2 := h2
  have lt2 : ∀ x ∈ p2, x.block < W.heap.size := by obtain ⟨m, hm⟩ := k2; exact DataW.trod_lt m _ _ _ hm
  obtain ⟨c0, rfl, hs0, hf0⟩ := open_flat (n := 5) (ks := pasK) (by kernel_rfl) (by kernel_rfl) (by kernel_rfl) (hval 0 _ v0 rfl rfl) h0
  obtain ⟨p0', hp0⟩ := pv_of_flat hs0 hf0
  obtain ⟨c1, rfl, hz1, hf1⟩ := open_flat (n := 5) (ks := skK) (by kernel_rfl) (by kernel_rfl) (by kernel_rfl) (hval 1 _ v1 rfl rfl) h1
  obtain ⟨s1, hc1, hs1⟩ := sk_of_flat (cs := c1.toList) (by rw [Array.length_toList]; exact hz1) (fun j k hj => by rw [Array.getElem?_toList]; exact hf1 j k hj)
  obtain rfl : c1 = #[.int .i8 s1.x, .int .i8 s1.y, .int .i16 s1.r] := by apply Array.ext'; rw [hc1]; rfl
  obtain ⟨c2, rfl, hz2, hf2⟩ := open_flat (n := 5) (ks := skK) (by kernel_rfl) (by kernel_rfl) (by kernel_rfl) (hval 2 _ v2 rfl rfl) h2
  obtain ⟨s2, hc2, hs2⟩ := sk_of_flat (cs := c2.toList) (by rw [Array.length_toList]; exact hz2) (fun j k hj => by rw [Array.getElem?_toList]; exact hf2 j k hj)
  obtain rfl : c2 = #[.int .i8 s2.x, .int .i8 s2.y, .int .i16 s2.r] := by apply Array.ext'; rw [hc2]; rfl
  clear hA0 hval0
  refine (FnExactCommonOf_walk p0' c0 s1 s2 W hp0 hs1 hs2).mono fun e W' ⟨he, bel⟩ => ?_
  subst he
  exact ⟨_, rfl, _, _, _, [], _, [], hW', trodAll_mk1 (shut_bool Try.underlying4 _), (trodAll_cons_mk (Below.trod laidOut (by kernel_rfl) (of_decide_eq_true (by kernel_rfl)) k0 bel lt0) (trodAll_cons_mk (Below.trod laidOut (by kernel_rfl) (of_decide_eq_true (by kernel_rfl)) k1 bel lt1) (trodAll_cons_mk (Below.trod laidOut (by kernel_rfl) (of_decide_eq_true (by kernel_rfl)) k2 bel lt2) trodAll_mk0))), rfl, bel.frame _, fun h => by cases h⟩
theorem closed : joinedFacts Try.prog 12 Try.f12 Rows.fnExactCommonOfSpec Rows.fnExactCommonOfRow = true := by
  unfold joinedFacts
  rw [prog_mayEnter, prog_lifts, prog_make]
  show (_ : Bool) = true
  kernel_rfl
theorem over : Rows.fnExactCommonOfRow.holds Try.pinned (OpenSpec.ofChange Rows.fnExactCommonOfSpec) :=
  OpenClaim.holds_of_wide 12 Try.f12 rfl rfl rfl rfl rfl rfl rfl ⟨rfl, rfl, rfl, rfl, rfl⟩ rfl rfl rfl rfl rfl (by kernel_rfl) Try.func12 closed
    (of_decide_eq_true (by kernel_rfl)) (by unfold Func.isWrapper; first | (rw [if_pos (by decide +kernel)]; kernel_rfl) | (rw [if_neg (by decide +kernel)]; exact ⟨rfl, rfl⟩))
    (fun os started H enc _ => lifted os started H enc)
end FnExactCommonOfRow
theorem fnExactCommonOf_holds : Rows.FnExactCommonOfSaid := FnExactCommonOfRow.over
#print axioms fnExactCommonOf_holds
end Go.Proofs.Ytfefkkpcjcnmcaa
