import Derived.Test.YtpifngdmlmfnhaaQB10
import Derived.Test.YtpifngdmlmfnhaaQB26
import Derived.Test.YtpifngdmlmfnhaaQB28
/- ReachOf, FoodOf, LeastReach: both functions. No condition. -/
namespace Go.Proofs.Ytpifngdmlmfnhaa
set_option linter.unusedVariables false
set_option linter.unusedSimpArgs false
open Go.RowKit Mem Wk
attribute [local irreducible] Calls Wk.S Wk.C Wk.E Wk.X Wk.T Wk.Y Wk.andV Wk.shrV Calm.wpLex CalmB.wpLex bfsN
theorem slStk1 (a b c : Value) (w : World) : (Instr.buildSlice 36 1 #[(0, .agg #[a, b, c])]).run Try.prog w = .ok (.slice (some ⟨w.heap.size, 0, none⟩) 1 1) (w.alloc (.cells #[a, b, c] 132 (0, 0))) := by kernel_rfl
theorem bStk (a b c : Value) (hc : c.oneCell' = true) (w : World) : (Instr.build 132 #[(0, .agg #[a, b]), (1, c)]).run Try.prog w = .ok (.agg #[a, b, c]) w := by
  cases c <;> first | (simp [Value.oneCell'] at hc; done) | kernel_rfl
set_option maxRecDepth 100000 in
theorem stakeCode_any (p : Nat → Int) (cs : Array Value) (v : Value) (l : List Sk) (w : World) (hp : Pv p cs) (hl : Sl w 3 v (l.map Sk.cells)) (hok : ∀ s ∈ l, s.ok) :
    Calls Try.prog 101 #[.agg cs, v] w fun e w' => e = .returned (.int .i64 (if validStk p l then 0 else 1)) ∧ Below w.heap.size w w' := by
  have hsz := hp.size
  refine enter2 Try.func101 rfl rfl rfl (Own.start w) ?_
  repeat' (first
    | (refine s_g ?_; first
      | (refine s_k 0 rfl ?_; refine s_val rfl rfl rfl (r_move rfl rfl) ?_)
      | (refine s_k 8 rfl ?_; first | (refine' s_val rfl rfl rfl (r_ldv rfl rfl ?qm ?qv) ?_; (case qm => (exact zMm)); (case qv => (exact zLe))) | (refine' s_val rfl rfl rfl (r_ldo rfl rfl ?qw (by simp) ?qv) ?_; (case qw => assumption); (case qv => (exact zLe))))
      | (refine s_k 1 rfl ?_; refine s_val rfl rfl rfl (r_assign rfl rfl) ?_)
      | (refine s_k 35 rfl ?_; first | (refine s_call Try.func188 (by kernel_rfl) rfl rfl rfl rfl rfl rfl (fun w hL => implValidStakes_any p cs _ l _ hp (hl.below hL.toBelow) hok) ?_) | (refine s_call Try.func102 (by kernel_rfl) rfl rfl rfl rfl rfl rfl (fun w hL => to_below (unless0_any _ _ _) rfl) ?_))
      | (refine s_k 4 rfl ?_; first | refine s_boxA rfl rfl rfl rfl rfl fun blk => ?_ | refine s_box1 rfl rfl rfl rfl rfl rfl fun blk => ?_)
      | refine s_nil ?_)
    | (refine c_g ?_; first | refine c_seq ?_ | refine c_region ?_ | (refine c_gc ?_; first | refine c_cond1 rfl zTr ?_ | refine c_cond0 rfl zTr ?_ | refine z_condd1 rfl ?_ | refine z_condd0 rfl ?_ | refine z_conddn1 rfl ?_ | refine z_conddn0 rfl ?_ | refine c_condd rfl (fun hc => ?_) (fun hc => ?_) | refine c_conddn rfl (fun hc => ?_) (fun hc => ?_) | refine c_condn rfl (fun hc => ?_) (fun hc => ?_) | refine c_cond rfl (fun hc => ?_) (fun hc => ?_)) | refine c_block ?_ | refine c_skip ?_ | refine c_exit ?_ | refine c_ret ?_)
    | (refine e_g ?_; first | refine e_then ?_ | refine e_blkn ?_ | refine e_thenx ?_ | refine e_thenr ?_ | refine e_blkr ?_ | refine e_blkx ?_ | refine e_blky rfl ?_)
    | (refine e_ret1 (by simp) rfl (re_tmp rfl) fun w hL => ⟨rfl, hL.toBelow⟩))
theorem valid_le2 {p : Nat → Int} (h : validP p = true) : p 0 ≤ 10 ∧ p 1 ≤ 10 := by
  unfold validP inB at h; simp at h; omega
theorem reachL_len {p : Nat → Int} {s : Sk} (ha : p 0 ≤ 10) (hb : p 1 ≤ 10) (hc : isC (p 0) (p 1) s.x s.y = true) : (reachL p s).length ≤ 100 := by
  obtain ⟨_, _, hW10, hH10⟩ := dims ha hb hc
  unfold reachL
  refine Nat.le_trans (List.length_filter_le _ _) ?_
  unfold yardL pasL
  exact Nat.le_trans (cellL_len _ _ _) (Nat.mul_le_mul hH10 hW10)
theorem reachL_inR {p : Nat → Int} {s : Sk} (ha : p 0 ≤ 10) (hb : p 1 ≤ 10) : ∀ c ∈ reachL p s, inR c := fun c hc => yard_inR ha hb (List.mem_filter.1 hc).1
end Go.Proofs.Ytpifngdmlmfnhaa
/- The cells that two stakes have in common: both functions. No condition. -/
namespace Go.Proofs.Ytpifngdmlmfnhaa
set_option linter.unusedVariables false
set_option linter.unusedSimpArgs false
open Go.RowKit Mem Wk
namespace Wk
open Calm
variable {P : Program} {n : Nat} {O : List Nat} {w0 : World} {l : List (Nat × Value)} {N L : List (Nat × TypeId × Array Value)} {Q : Exit → Act → World → Prop} {ops : Array Oper} {o : Oper} {rest : List Oper} {k d : Nat} {pl : Nat → CalmB.Plan} {v : Value}
end Wk
attribute [local irreducible] Calls Wk.S Wk.C Wk.E Wk.X Wk.T Wk.Y Wk.andV Wk.shrV Calm.wpLex CalmB.wpLex bfsN
theorem inR_nat {c : Sp} (h : inR c) : ∃ a b : Nat, c = ⟨(a : Int), (b : Int)⟩ ∧ a < 10 ∧ b < 10 := by
  obtain ⟨x, y⟩ := c
  unfold inR at h; simp only at h
  exact ⟨x.toNat, y.toNat, by congr 1 <;> omega, by omega, by omega⟩
theorem Wk.Ap.xy {n cap : Nat} {cur : Array Value} {l : List Sp} (h : Ap 2 n cap cur (flS l)) {i : Nat} {s : Sp} (hi : l[i]? = some s) : cur[0 + i * 2]? = some (.int .i8 s.x) ∧ cur[0 + i * 2 + 1]? = some (.int .i8 s.y) := by
  obtain ⟨h1, h2⟩ := h.spot hi
  have e0 := congrArg (fun a : Array Value => a[0]?) h2
  have e1 := congrArg (fun a : Array Value => a[1]?) h2
  simp only [Array.getElem?_extract] at e0 e1
  rw [if_pos (by omega)] at e0 e1
  exact ⟨e0, e1⟩
def notIn (l : List Sp) (c : Sp) : Bool := !(l.any fun s => eqSp c s)
set_option maxRecDepth 100000 in
theorem commonClo_any (lb : List Sp) (b gb n cap : Nat) (T T' : TypeId) (curb : Array Value) (c : Sp) (w : World) (hbx : w.heap[b]? = some (.cells #[.slice (some ⟨gb, 0, none⟩) lb.length cap] T (0, 0))) (hB : Ap 2 n cap curb (flS lb)) (hgb : w.heap[gb]? = some (.cells curb T' (0, 0))) (hlb : lb.length ≤ 1048576) :
    Calls Try.prog 193 #[.agg #[.int .i8 c.x, .int .i8 c.y], .pointer (some ⟨b, 0, none⟩)] w fun e w' => e = .returned (.bool (notIn lb c)) ∧ Below w.heap.size w w' := by
  have hmx : lb.length ≤ maxLen := by unfold maxLen; omega
  refine enter2 Try.func193 rfl rfl rfl (Own.start w) ?_
  repeat' (first
    | (refine s_g ?_; first
      | (refine s_k 8 rfl ?_; first | refine s_val rfl rfl rfl (r_ldo rfl rfl hbx (by simp) (ldv1 tb rfl rfl)) ?_ | (refine' s_val rfl rfl rfl (r_ldv rfl rfl ?qm ?qv) ?_; (case qm => (exact zMm)); (case qv => (exact zLe))) | (refine' s_val rfl rfl rfl (r_ldo rfl rfl ?qw (by simp) ?qv) ?_; (case qw => assumption); (case qv => (exact zLe))))
      | (refine s_k 1 rfl ?_; refine s_val rfl rfl rfl (r_assign rfl rfl) ?_)
      | (refine s_k 35 rfl ?_; (refine s_call Try.func145 (by kernel_rfl) rfl rfl rfl rfl rfl rfl (fun w hL => hasSpot_any lb c.x c.y _ _ _ (hB.slA (lenSp lb) (Kn.old hL hgb (by simp))) hmx) ?_))
      | (refine s_k 14 rfl ?_; refine s_val rfl rfl rfl (r_not rfl rfl) ?_)
      | (refine s_k 4 rfl ?_; first | refine s_boxA rfl rfl rfl rfl rfl fun blk => ?_ | refine s_box1 rfl rfl rfl rfl rfl rfl fun blk => ?_)
      | refine s_nil ?_)
    | (refine c_g ?_; first | refine c_seq ?_ | refine c_region ?_ | (refine c_gc ?_; first | refine c_cond1 rfl zTr ?_ | refine c_cond0 rfl zTr ?_ | refine z_condd1 rfl ?_ | refine z_condd0 rfl ?_ | refine z_conddn1 rfl ?_ | refine z_conddn0 rfl ?_ | refine c_condd rfl (fun hc => ?_) (fun hc => ?_) | refine c_conddn rfl (fun hc => ?_) (fun hc => ?_) | refine c_condn rfl (fun hc => ?_) (fun hc => ?_) | refine c_cond rfl (fun hc => ?_) (fun hc => ?_)) | refine c_block ?_ | refine c_skip ?_ | refine c_exit ?_ | refine c_ret ?_)
    | (refine e_g ?_; first | refine e_then ?_ | refine e_blkn ?_ | refine e_thenx ?_ | refine e_thenr ?_ | refine e_blkr ?_ | refine e_blkx ?_ | refine e_blky rfl ?_)
    | (refine e_ret1 (by simp) rfl (re_tmp rfl) fun w hL => ⟨rfl, hL.toBelow⟩))
def cmnL (la lb : List Sp) : List Sp := la.filter fun c => !notIn lb c
set_option maxRecDepth 100000 in
set_option maxHeartbeats 800000 in
theorem common_any (la lb : List Sp) (ga gb na nb capa capb : Nat) (cura curb : Array Value) (Ta Tb : TypeId) (w : World) (hA : Ap 2 na capa cura (flS la)) (hga : w.heap[ga]? = some (.cells cura Ta (0, 0))) (hB : Ap 2 nb capb curb (flS lb)) (hgb : w.heap[gb]? = some (.cells curb Tb (0, 0))) (hla : la.length ≤ 1048576) (hlb : lb.length ≤ 1048576) :
    Calls Try.prog 106 #[.slice (some ⟨ga, 0, none⟩) la.length capa, .slice (some ⟨gb, 0, none⟩) lb.length capb] w (NewS 88 2 (flS (cmnL la lb)) w) := by
  have hlt := (Array.getElem?_eq_some_iff.1 hgb).1
  refine enter2 Try.func106 rfl rfl rfl (Own.start w) ?_
  repeat' (first
    | (refine s_g ?_; first
      | (refine s_k 0 rfl ?_; refine s_val rfl rfl rfl (r_move rfl rfl) ?_)
      | (refine s_k 1 rfl ?_; refine s_val rfl rfl rfl (r_assign rfl rfl) ?_)
      | (refine s_k 35 rfl ?_; first | (refine s_callN Try.func192 (by kernel_rfl) rfl rfl rfl rfl rfl rfl (fun w hL => clone_any la ga 0 capa w (hA.slA (lenSp la) (Kn.old hL hga (by simp))) hla) fun g k cap cur hC => ?_) | (refine s_callM0 Try.func191 (by kernel_rfl) rfl rfl rfl rfl rfl rfl (fun w hL hg => delS_any la 193 _ [_] (notIn lb) _ _ _ _ w hC hg hla Try.func193 (by kernel_rfl) rfl (fun c hcm w' hb' => commonClo_any lb _ gb nb capb _ _ curb c w' (hb'.blk (hL.at_ m1) (Kn.ne0 hL m0)) hB (hb'.blk (Kn.old hL hgb (by simp)) (by have := hL.low _ List.mem_cons_self; simp at this; omega)) hlb)) fun cs hp => ?_))
      | (refine s_k 4 rfl ?_; first | refine s_boxA rfl rfl rfl rfl rfl fun blk => ?_ | refine s_box1 rfl rfl rfl rfl rfl rfl fun blk => ?_)
      | (refine s_k 18 rfl ?_; refine s_val rfl rfl rfl (r_func rfl rfl rfl) ?_)
      | refine s_nil ?_)
    | (refine c_g ?_; first | refine c_seq ?_ | refine c_region ?_ | (refine c_gc ?_; first | refine c_cond1 rfl zTr ?_ | refine c_cond0 rfl zTr ?_ | refine z_condd1 rfl ?_ | refine z_condd0 rfl ?_ | refine z_conddn1 rfl ?_ | refine z_conddn0 rfl ?_ | refine c_condd rfl (fun hc => ?_) (fun hc => ?_) | refine c_conddn rfl (fun hc => ?_) (fun hc => ?_) | refine c_condn rfl (fun hc => ?_) (fun hc => ?_) | refine c_cond rfl (fun hc => ?_) (fun hc => ?_)) | refine c_block ?_ | refine c_skip ?_ | refine c_exit ?_ | refine c_ret ?_)
    | (refine e_g ?_; first | refine e_then ?_ | refine e_blkn ?_ | refine e_thenx ?_ | refine e_thenr ?_ | refine e_blkr ?_ | refine e_blkx ?_ | refine e_blky rfl ?_)
    | (refine e_ret1 (by simp) rfl (re_tmp rfl) fun w hL => NewS.of hp hL m0))
theorem cmn_mask {p : Nat → Int} {a b : Sk} (hsb : b.ok) (ha : p 0 ≤ 10) (hb : p 1 ≤ 10) (hcb : isC (p 0) (p 1) b.x b.y = true) : ∀ c, inR c → (!notIn (reachL p b) c) = tbl (maskF p b) (ci c) := fun c hc => by
  rw [← mask_reach hsb ha hb hcb]
  unfold notIn
  rw [Bool.not_not, Bool.eq_iff_iff, List.any_eq_true]
  constructor
  · rintro ⟨s, hs, he⟩
    have e : c = s := by unfold eqSp at he; simp at he; obtain ⟨x, y⟩ := c; obtain ⟨u, v⟩ := s; simp at he; rw [he.1, he.2]
    subst e
    exact (cellL_mem hs).1
  · intro h
    obtain ⟨h1, h2, h3, h4⟩ := hc
    exact ⟨c, cellL_in h ⟨h1, by omega⟩ ⟨h3, by omega⟩, by unfold eqSp; simp⟩
set_option maxRecDepth 100000 in
set_option maxHeartbeats 1600000 in
theorem l05Common_any (p : Nat → Int) (cs : Array Value) (T : TypeId) (gp : Nat) (a b : Sk) (w : World) (hp : Pv p cs) (hg : w.heap[gp]? = some (.cells cs T (0, 0))) (hsa : a.ok) (hsb : b.ok) (ha : p 0 ≤ 10) (hb : p 1 ≤ 10) (hca : isC (p 0) (p 1) a.x a.y = true) (hcb : isC (p 0) (p 1) b.x b.y = true) :
    Calls Try.prog 114 #[.pointer (some ⟨gp, 0, none⟩), .agg #[.int .i8 a.x, .int .i8 a.y, .int .i16 a.r], .agg #[.int .i8 b.x, .int .i8 b.y, .int .i16 b.r]] w (NewS 88 2 (flS (cmnL (reachL p a) (reachL p b))) w) := by
  have hMa := gbA_ok (tbl (maskF p a))
  have hMb := gbA_ok (tbl (maskF p b))
  have hlen := reachL_len (s := a) ha hb hca
  have hin := reachL_inR (p := p) (s := a) ha hb
  have hcm := cmn_mask (a := a) hsb ha hb hcb
  have hlist := fun (w : World) (g : Nat) (h : w.heap[g]? = some (.cells (gbA (tbl (maskF p a))) 158 (0, 0))) => l05List_any _ _ _ _ w hMa h
  rw [mask_reach hsa ha hb hca] at hlist
  unfold cmnL
  generalize reachL p a = Y at *
  generalize notIn (reachL p b) = q at *
  refine enter3 Try.func114 rfl rfl rfl (Own.start w) ?_
  repeat' (first
    | (refine s_g ?_; first
      | (refine s_k 0 rfl ?_; refine s_val rfl rfl rfl (r_move rfl rfl) ?_)
      | (refine s_k 23 rfl ?_; first | refine s_val rfl rfl rfl (r_field tb rfl rfl rfl) ?_ | refine s_val rfl rfl rfl (r_fieldS tb rfl rfl rfl) ?_)
      | (refine s_k 8 rfl ?_; first | (refine' s_val rfl rfl rfl (r_ldv rfl rfl ?qm ?qv) ?_; (case qm => (exact zMm)); (case qv => (exact zLe))) | (refine' s_val rfl rfl rfl (r_ldo rfl rfl ?qw (by simp) ?qv) ?_; (case qw => assumption); (case qv => (exact zLe))))
      | (refine s_k 1 rfl ?_; refine s_val rfl rfl rfl (r_assign rfl rfl) ?_)
      | (refine s_k 13 rfl ?_; first | refine s_val rfl rfl rfl (r_lss rfl rfl rfl) ?_ | refine s_val rfl rfl rfl (r_add rfl rfl rfl (wrap_in (by simp only [lo, hi]; omega))) ?_)
      | (refine s_k 35 rfl ?_; first | (refine s_call Try.func186 (by kernel_rfl) rfl rfl rfl rfl rfl rfl (fun w hL => l05Mask_any p cs T gp a _ hp (Kn.old hL hg (by simp)) hsa ha hb hca) ?_) | (refine s_call Try.func186 (by kernel_rfl) rfl rfl rfl rfl rfl rfl (fun w hL => l05Mask_any p cs T gp b _ hp (Kn.old hL hg (by simp)) hsb ha hb hcb) ?_) | (refine s_callN Try.func196 (by kernel_rfl) rfl rfl rfl rfl rfl rfl (fun w hL => hlist w _ (hL.at_ m0)) fun gy k capy cury hAy => ?_))
      | (refine s_k 25 rfl ?_; first | refine s_val rfl rfl rfl (r_ixN tb rfl rfl rfl rfl (by omega)) ?_ | refine s_val rfl rfl rfl (r_ixA tb rfl rfl rfl rfl (by omega) (by omega)) ?_ | refine s_val rfl rfl rfl (r_ixO tb rfl rfl rfl rfl (by omega)) ?_)
      | (refine s_k 4 rfl ?_; first | refine s_boxA rfl rfl rfl rfl rfl fun blk => ?_ | refine s_box1 rfl rfl rfl rfl rfl rfl fun blk => ?_)
      | (refine s_k 9 rfl ?_; (first | refine s_st1 tb rfl rfl rfl rfl rfl rfl rfl rfl ?_ | refine s_stA tb rfl rfl rfl rfl (by first | rfl | assumption | (apply Pv.size; assumption)) rfl rfl ?_); (first | refine' st0 ?qs ?_ | refine' st1 ?qs ?_ | refine' st2 ?qs ?_ | refine' st3 ?qs ?_ | refine' st4 ?qs ?_ | refine' st5 ?qs ?_ | refine' st6 ?qs ?_ | refine' st7 ?qs ?_ | refine' st8 ?qs ?_ | refine' st9 ?qs ?_ | refine' st10 ?qs ?_ | refine' st11 ?qs ?_); (case qs => (first | exact setB (gbA_ok _) zFl_ok.size | exact zSet)))
      | (refine s_k 3 rfl ?_; refine s_allocA (t := 158) rfl zF1010 rfl rfl rfl fun blk => ?_)
      | (refine s_k 36 rfl ?_; refine s_val rfl rfl rfl (r_len tb rfl rfl rfl) ?_)
      | (refine s_k 6 rfl ?_; refine s_bsl rfl rfl (fun w => slSpot0 w) rfl rfl rfl fun blk => ?_)
      | refine s_nil ?_)
    | (refine c_g ?_; first | refine c_seq ?_ | refine c_region ?_ | (refine c_gc ?_; first | refine c_cond1 rfl zTr ?_ | refine c_cond0 rfl zTr ?_ | refine z_condd1 rfl ?_ | refine z_condd0 rfl ?_ | refine z_conddn1 rfl ?_ | refine z_conddn0 rfl ?_ | refine c_condd rfl (fun hc => ?_) (fun hc => ?_) | refine c_conddn rfl (fun hc => ?_) (fun hc => ?_) | refine c_condn rfl (fun hc => ?_) (fun hc => ?_) | refine c_cond rfl (fun hc => ?_) (fun hc => ?_)) | refine c_block ?_ | refine c_skip ?_ | refine c_exit ?_ | refine c_ret ?_)
    | (refine e_g ?_; first | refine e_then ?_ | refine e_blkn ?_ | refine e_thenx ?_ | refine e_thenr ?_ | refine e_blkr ?_ | refine e_blkx ?_ | refine e_blky rfl ?_))
  obtain rfl := hAy.cnt
  rename_i b4 b5 b7 b9
  refine c_loop (ι := Nat × Nat × Nat × Array Value) (fun i => Y.length - i.1) (fun i => i.1 ≤ Y.length ∧ Ap 2 ((Y.take i.1).filter fun c => !q c).length i.2.2.1 i.2.2.2 (flS ((Y.take i.1).filter fun c => !q c))) (fun i => [(11, .int .i64 (i.1 : Int)), (10, .slice (some ⟨i.2.1, 0, none⟩) ((Y.take i.1).filter fun c => !q c).length i.2.2.1), (8, .slice (some ⟨gy, 0, none⟩) Y.length capy), (9, .pointer (some ⟨b9, 0, none⟩))]) (fun i => [(i.2.1, 88, i.2.2.2), (b9, 158, gbA (tbl (maskF p b))), (gy, 88, cury), (b7, 158, gbA (tbl (maskF p a))), (b5, 132, #[.int .i8 b.x, .int .i8 b.y, .int .i16 b.r]), (b4, 132, #[.int .i8 a.x, .int .i8 a.y, .int .i16 a.r])]) (0, blk, 0, #[]) ⟨by simp, Ap.nil 2⟩ ?hs rfl ?_
  case hs => (repeat' (first | exact sub_nil | refine sub_cons rfl ?_))
  rintro ⟨k, go, cap, cur⟩ ⟨hk, hA⟩
  simp only at hk hA ⊢
  by_cases hlt : k < Y.length
  · have hx : Y[k]? = some Y[k] := List.getElem?_eq_getElem hlt
    have hcr := hin _ (List.getElem_mem hlt)
    have hfl : ((Y.take k).filter fun c => !q c).length ≤ k := Nat.le_trans (List.length_filter_le _ _) (by simp; omega)
    have hts : ((Y.take (k + 1)).filter fun c => !q c) = ((Y.take k).filter fun c => !q c) ++ if !q Y[k] then [Y[k]] else [] := by
      rw [List.take_add_one, hx, List.filter_append]
      cases hn : q Y[k] <;> simp [hn]
    have hsp := hAy.spot hx
    have hmk := hcm _ hcr
    obtain ⟨hxe, hye⟩ := hAy.xy hx
    generalize Y[k] = c at *
    obtain ⟨u, v, rfl, hu, hv⟩ := inR_nat hcr
    have hld := hMb.at_ (x := u) (y := v) hu hv
    rw [← hmk] at hld
    generalize hF : ((Y.take k).filter fun c => !q c) = F at *
    cases hq : !q ⟨(u : Int), (v : Int)⟩
    all_goals
      rw [hq] at hld hts
      simp only [if_true, Bool.false_eq_true, if_false, List.append_nil] at hts
      repeat' (first
        | (refine s_g ?_; first
      | (refine s_k 0 rfl ?_; refine s_val rfl rfl rfl (r_move rfl rfl) ?_)
      | (refine s_k 23 rfl ?_; first | refine s_val rfl rfl rfl (r_field tb rfl rfl rfl) ?_ | refine s_val rfl rfl rfl (r_fieldS tb rfl rfl rfl) ?_)
      | (refine s_k 8 rfl ?_; first | refine s_val rfl rfl rfl (r_ldN tb rfl rfl m1 rfl hsp.1 hsp.2) ?_ | refine s_val rfl rfl rfl (r_ldN tb rfl rfl m2 rfl hsp.1 hsp.2) ?_ | refine s_val rfl rfl rfl (r_ldN tb rfl rfl m3 rfl hsp.1 hsp.2) ?_ | (refine' s_val rfl rfl rfl (r_ldv rfl rfl ?qm ?qv) ?_; (case qm => (exact zMm)); (case qv => (first | exact ldvL tb rfl rfl | exact ldv1 tb rfl (by assumption) | exact ldv1 tb rfl (hxe) | exact ldv1 tb rfl (hye) | exact ldv1 tb rfl (hld) | exact zLd))) | (refine' s_val rfl rfl rfl (r_ldo rfl rfl ?qw (by simp) ?qv) ?_; (case qw => assumption); (case qv => (first | exact ldvL tb rfl rfl | exact ldv1 tb rfl (by assumption) | exact ldv1 tb rfl (hxe) | exact ldv1 tb rfl (hye) | exact ldv1 tb rfl (hld) | exact zLd))))
      | (refine s_k 1 rfl ?_; refine s_val rfl rfl rfl (r_assign rfl rfl) ?_)
      | (refine s_k 13 rfl ?_; first | refine s_val rfl rfl rfl (r_lss rfl rfl rfl) ?_ | refine s_val rfl rfl rfl (r_add rfl rfl rfl (wrap_in (by simp only [lo, hi]; omega))) ?_)
      | (refine s_k 25 rfl ?_; first | refine s_val rfl rfl rfl (r_ixO tb rfl rfl rfl rfl hlt) ?_ | refine s_val rfl rfl rfl (r_ixN tb rfl rfl rfl rfl (by omega)) ?_ | refine s_val rfl rfl rfl (r_ixA tb rfl rfl rfl rfl (by omega) (by omega)) ?_ | refine s_val rfl rfl rfl (r_ixO tb rfl rfl rfl rfl (by omega)) ?_)
      | (refine s_k 4 rfl ?_; first | refine s_boxA rfl rfl rfl rfl rfl fun blk => ?_ | refine s_box1 rfl rfl rfl rfl rfl rfl fun blk => ?_)
      | (refine s_k 9 rfl ?_; (first | refine s_st1 tb rfl rfl rfl rfl rfl rfl rfl rfl ?_ | refine s_stA tb rfl rfl rfl rfl (by first | rfl | assumption | (apply Pv.size; assumption)) rfl rfl ?_); (first | refine' st0 ?qs ?_ | refine' st1 ?qs ?_ | refine' st2 ?qs ?_ | refine' st3 ?qs ?_ | refine' st4 ?qs ?_ | refine' st5 ?qs ?_ | refine' st6 ?qs ?_ | refine' st7 ?qs ?_ | refine' st8 ?qs ?_ | refine' st9 ?qs ?_ | refine' st10 ?qs ?_ | refine' st11 ?qs ?_); (case qs => (first | exact zSet)))
      | (refine s_k 36 rfl ?_; first | refine s_app0 hA rfl rfl rfl uSpotS iSpot rfl (by omega) (by simp) (by simp) rfl (by simp [Value.oneCell']) (by unfold maxLen; omega) (by omega) rfl rfl rfl fun go cap cur hA => ?_ | refine s_val rfl rfl rfl (r_len tb rfl rfl rfl) ?_)
      | (refine s_k 6 rfl ?_; refine s_bsl rfl rfl (fun w => slSpot1 _ _ w) rfl rfl rfl fun blk => ?_)
      | refine s_nil ?_)
        | (refine c_g ?_; first | refine c_seq ?_ | refine c_region ?_ | (refine c_gc ?_; first | refine c_cond1 rfl zTr ?_ | refine c_cond0 rfl zTr ?_ | refine z_condd1 rfl ?_ | refine z_condd0 rfl ?_ | refine z_conddn1 rfl ?_ | refine z_conddn0 rfl ?_ | refine c_condd rfl (fun hc => ?_) (fun hc => ?_) | refine c_conddn rfl (fun hc => ?_) (fun hc => ?_) | refine c_condn rfl (fun hc => ?_) (fun hc => ?_) | refine c_cond rfl (fun hc => ?_) (fun hc => ?_)) | refine c_block ?_ | refine c_skip ?_ | refine c_exit ?_ | refine c_ret ?_)
        | (refine e_g ?_; first | refine e_then ?_ | refine e_blkn ?_ | refine e_thenx ?_ | refine e_thenr ?_ | refine e_blkr ?_ | refine e_blkx ?_ | refine e_blky rfl ?_)
        | (refine x_g ?_; first
      | (refine x_k 0 rfl ?_; (refine x_val rfl rfl rfl (r_move rfl rfl) ?hp ?_; (case hp => exact rfl)))
      | (refine x_k 23 rfl ?_; first | (refine x_val rfl rfl rfl (r_field tb rfl rfl rfl) ?hp ?_; (case hp => exact rfl)) | (refine x_val rfl rfl rfl (r_fieldS tb rfl rfl rfl) ?hp ?_; (case hp => exact rfl)))
      | (refine x_k 8 rfl ?_; first | (refine x_val rfl rfl rfl (r_ldN tb rfl rfl m1 rfl hsp.1 hsp.2) ?hp ?_; (case hp => exact rfl)) | (refine x_val rfl rfl rfl (r_ldN tb rfl rfl m2 rfl hsp.1 hsp.2) ?hp ?_; (case hp => exact rfl)) | (refine x_val rfl rfl rfl (r_ldN tb rfl rfl m3 rfl hsp.1 hsp.2) ?hp ?_; (case hp => exact rfl)) | (refine' x_val rfl rfl rfl (r_ldv rfl rfl ?qm ?qv) ?hp ?_; (case qm => (exact zMm)); (case qv => (first | exact ldvL tb rfl rfl | exact ldv1 tb rfl (by assumption) | exact ldv1 tb rfl (hxe) | exact ldv1 tb rfl (hye) | exact ldv1 tb rfl (hld) | exact zLd)); (case hp => exact rfl)) | (refine' x_val rfl rfl rfl (r_ldo rfl rfl ?qw (by simp) ?qv) ?hp ?_; (case qw => assumption); (case qv => (first | exact ldvL tb rfl rfl | exact ldv1 tb rfl (by assumption) | exact ldv1 tb rfl (hxe) | exact ldv1 tb rfl (hye) | exact ldv1 tb rfl (hld) | exact zLd)); (case hp => exact rfl)))
      | (refine x_k 1 rfl ?_; (refine x_val rfl rfl rfl (r_assign rfl rfl) ?hp ?_; (case hp => exact rfl)))
      | (refine x_k 13 rfl ?_; first | (refine x_val rfl rfl rfl (r_lss rfl rfl rfl) ?hp ?_; (case hp => exact rfl)) | (refine x_val rfl rfl rfl (r_add rfl rfl rfl (wrap_in (by simp only [lo, hi]; omega))) ?hp ?_; (case hp => exact rfl)))
      | (refine x_k 25 rfl ?_; first | (refine x_val rfl rfl rfl (r_ixO tb rfl rfl rfl rfl hlt) ?hp ?_; (case hp => exact rfl)) | (refine x_val rfl rfl rfl (r_ixN tb rfl rfl rfl rfl (by omega)) ?hp ?_; (case hp => exact rfl)) | (refine x_val rfl rfl rfl (r_ixA tb rfl rfl rfl rfl (by omega) (by omega)) ?hp ?_; (case hp => exact rfl)) | (refine x_val rfl rfl rfl (r_ixO tb rfl rfl rfl rfl (by omega)) ?hp ?_; (case hp => exact rfl)))
      | (refine x_k 4 rfl ?_; (refine x_boxA rfl rfl rfl rfl rfl ?hp (fun blk => ?_); (case hp => exact rfl)))
      | (refine x_k 9 rfl ?_; first | (refine' x_putA0 tb rfl rfl rfl rfl (by first | rfl | assumption | (apply Pv.size; assumption)) ?qs (by first | rfl | assumption | (apply Pv.size; assumption)) rfl rfl ?hp ?_; (case qs => (first | exact zSet)); (case hp => exact rfl)) | (refine' x_putA1 tb rfl rfl rfl rfl (by first | rfl | assumption | (apply Pv.size; assumption)) ?qs (by first | rfl | assumption | (apply Pv.size; assumption)) rfl rfl ?hp ?_; (case qs => (first | exact zSet)); (case hp => exact rfl)) | (refine' x_putA2 tb rfl rfl rfl rfl (by first | rfl | assumption | (apply Pv.size; assumption)) ?qs (by first | rfl | assumption | (apply Pv.size; assumption)) rfl rfl ?hp ?_; (case qs => (first | exact zSet)); (case hp => exact rfl)))
      | (refine x_k 36 rfl ?_; (refine x_val rfl rfl rfl (r_len tb rfl rfl rfl) ?hp ?_; (case hp => exact rfl)))
      | refine x_nil0 ?_
      | refine x_nil ?_)
        | (refine' c_drawX (id := 8) [(Sum.inl _ : Calm.Plan), (Sum.inl _ : Calm.Plan), (Sum.inl _ : Calm.Plan), (Sum.inl _ : Calm.Plan), (Sum.inl _ : Calm.Plan), (Sum.inl _ : Calm.Plan), (Sum.inl _ : Calm.Plan), (Sum.inl _ : Calm.Plan), (Sum.inl _ : Calm.Plan), (Sum.inl _ : Calm.Plan), (Sum.inl _ : Calm.Plan), (Sum.inl _ : Calm.Plan), (Sum.inl _ : Calm.Plan)] (by kernel_rfl) (by kernel_rfl) (by kernel_rfl) ?_)
        | refine e_round (k + 1, go, cap, cur) (by simp; omega) ⟨by simp; omega, ?_⟩ ?_ rfl)
      all_goals first
        | (exact sub_cons rfl (sub_cons' rfl (by simp only; rw [hts] <;> simp) (by repeat' (first | exact sub_nil | refine sub_cons rfl ?_))))
        | (simp only; rw [hts]; exact hA)
        | (simp only; rw [hts, flS_snoc]; simpa [Sp.cells] using hA)
  · have hkl : k = Y.length := by omega
    subst hkl
    rw [List.take_length] at hA ⊢
    repeat' (first
      | (refine s_g ?_; first
      | (refine s_k 0 rfl ?_; refine s_val rfl rfl rfl (r_move rfl rfl) ?_)
      | (refine s_k 23 rfl ?_; first | refine s_val rfl rfl rfl (r_field tb rfl rfl rfl) ?_ | refine s_val rfl rfl rfl (r_fieldS tb rfl rfl rfl) ?_)
      | (refine s_k 8 rfl ?_; first | (refine' s_val rfl rfl rfl (r_ldv rfl rfl ?qm ?qv) ?_; (case qm => (exact zMm)); (case qv => (exact zLe))) | (refine' s_val rfl rfl rfl (r_ldo rfl rfl ?qw (by simp) ?qv) ?_; (case qw => assumption); (case qv => (exact zLe))))
      | (refine s_k 1 rfl ?_; refine s_val rfl rfl rfl (r_assign rfl rfl) ?_)
      | (refine s_k 13 rfl ?_; first | refine s_val rfl rfl rfl (r_lss rfl rfl rfl) ?_ | refine s_val rfl rfl rfl (r_add rfl rfl rfl (wrap_in (by simp only [lo, hi]; omega))) ?_)
      | (refine s_k 25 rfl ?_; first | refine s_val rfl rfl rfl (r_ixN tb rfl rfl rfl rfl (by omega)) ?_ | refine s_val rfl rfl rfl (r_ixA tb rfl rfl rfl rfl (by omega) (by omega)) ?_ | refine s_val rfl rfl rfl (r_ixO tb rfl rfl rfl rfl (by omega)) ?_)
      | (refine s_k 4 rfl ?_; first | refine s_boxA rfl rfl rfl rfl rfl fun blk => ?_ | refine s_box1 rfl rfl rfl rfl rfl rfl fun blk => ?_)
      | (refine s_k 9 rfl ?_; (first | refine s_st1 tb rfl rfl rfl rfl rfl rfl rfl rfl ?_ | refine s_stA tb rfl rfl rfl rfl (by first | rfl | assumption | (apply Pv.size; assumption)) rfl rfl ?_); (first | refine' st0 ?qs ?_ | refine' st1 ?qs ?_ | refine' st2 ?qs ?_ | refine' st3 ?qs ?_ | refine' st4 ?qs ?_ | refine' st5 ?qs ?_ | refine' st6 ?qs ?_ | refine' st7 ?qs ?_ | refine' st8 ?qs ?_ | refine' st9 ?qs ?_ | refine' st10 ?qs ?_ | refine' st11 ?qs ?_); (case qs => (first | exact zSet)))
      | (refine s_k 36 rfl ?_; refine s_val rfl rfl rfl (r_len tb rfl rfl rfl) ?_)
      | refine s_nil ?_)
      | (refine c_g ?_; first | refine c_seq ?_ | refine c_region ?_ | (refine c_gc ?_; first | refine c_cond1 rfl zTr ?_ | refine c_cond0 rfl zTr ?_ | refine z_condd1 rfl ?_ | refine z_condd0 rfl ?_ | refine z_conddn1 rfl ?_ | refine z_conddn0 rfl ?_ | refine c_condd rfl (fun hc => ?_) (fun hc => ?_) | refine c_conddn rfl (fun hc => ?_) (fun hc => ?_) | refine c_condn rfl (fun hc => ?_) (fun hc => ?_) | refine c_cond rfl (fun hc => ?_) (fun hc => ?_)) | refine c_block ?_ | refine c_skip ?_ | refine c_exit ?_ | refine c_ret ?_)
      | (refine e_g ?_; first | refine e_then ?_ | refine e_blkn ?_ | refine e_thenx ?_ | refine e_thenr ?_ | refine e_blkr ?_ | refine e_blkx ?_ | refine e_blky rfl ?_)
      | (refine e_ret1 (by simp) rfl (re_tmp rfl) fun w hL => NewS.of hA hL m0))
end Go.Proofs.Ytpifngdmlmfnhaa
