import Derived.Test.YtpifngdmlmfnhaaQC10
import Derived.Test.YtpifngdmlmfnhaaQC24
import Derived.Test.YtpifngdmlmfnhaaQC26
/- ReachOf, FoodOf, LeastReach: both functions. No condition. -/
namespace Go.Proofs.Ytpifngdmlmfnhaa
set_option linter.unusedVariables false
set_option linter.unusedSimpArgs false
open Go.RowKit Mem Wk
attribute [local irreducible] Calls Wk.S Wk.C Wk.E Wk.X Wk.T Wk.Y Wk.andV Wk.shrV Calm.wpLex CalmB.wpLex bfsN
set_option maxRecDepth 100000 in
theorem stakeCode_any (p : Nat → Int) (cs : Array Value) (v : Value) (l : List Sk) (w : World) (hp : Pv p cs) (hl : Sl w 3 v (l.map Sk.cells)) (hok : ∀ s ∈ l, s.ok) :
    Calls Try.prog 101 #[.agg cs, v] w fun e w' => e = .returned (.int .i64 (if validStk p l then 0 else 1)) ∧ Below w.heap.size w w' := by
  have hsz := hp.size
  refine enter2 Try.func101 rfl rfl rfl (Own.start w) ?_
  repeat' (first
    | (refine s_g ?_; first
      | (refine s_k 0 rfl ?_; refine s_val rfl rfl rfl (r_move rfl rfl) ?_)
      | (refine s_k 8 rfl ?_; first | (refine' s_val rfl rfl rfl (r_ldv rfl rfl ?qm ?qv) ?_; (case qm => (exact zMm)); (case qv => (exact zLe))) | (refine' s_val rfl rfl rfl (r_ldo rfl rfl ?qw (by simp) ?qv) ?_; (case qw => assumption); (case qv => (exact zLe))))
      | (refine s_k 1 rfl ?_; refine s_val rfl rfl rfl (r_assign rfl rfl) ?_)
      | (refine s_k 35 rfl ?_; first | (refine s_call Try.func188 (by kernel_rfl) rfl rfl rfl rfl rfl rfl (fun w hL => implValidStakes_any p cs _ l _ hp (hl.below hL.toBelow) hok) ?_) | (refine s_call Try.func102 (by kernel_rfl) rfl rfl rfl rfl rfl rfl (fun w hL => to_below (unless0_any _ _ _) rfl) ?_))
      | (refine s_k 4 rfl ?_; first | refine s_boxA rfl rfl rfl rfl rfl fun blk => ?_ | refine s_box1 rfl rfl rfl rfl rfl rfl fun blk => ?_)
      | refine s_nil ?_)
    | (refine c_g ?_; first | refine c_seq ?_ | refine c_region ?_ | (refine c_gc ?_; first | refine c_cond1 rfl zTr ?_ | refine c_cond0 rfl zTr ?_ | refine z_condd1 rfl ?_ | refine z_condd0 rfl ?_ | refine z_conddn1 rfl ?_ | refine z_conddn0 rfl ?_ | refine c_condd rfl (fun hc => ?_) (fun hc => ?_) | refine c_conddn rfl (fun hc => ?_) (fun hc => ?_) | refine c_condn rfl (fun hc => ?_) (fun hc => ?_) | refine c_cond rfl (fun hc => ?_) (fun hc => ?_)) | refine c_block ?_ | refine c_skip ?_ | refine c_exit ?_ | refine c_ret ?_)
    | (refine e_g ?_; first | refine e_then ?_ | refine e_blkn ?_ | refine e_thenx ?_ | refine e_thenr ?_ | refine e_blkr ?_ | refine e_blkx ?_ | refine e_blky rfl ?_)
    | (refine e_ret1 (by simp) rfl (re_tmp rfl) fun w hL => ⟨rfl, hL.toBelow⟩))
theorem valid_le2 {p : Nat → Int} (h : validP p = true) : p 0 ≤ 10 ∧ p 1 ≤ 10 := by
  unfold validP inB at h; simp at h; omega
theorem reachL_len {p : Nat → Int} {s : Sk} (ha : p 0 ≤ 10) (hb : p 1 ≤ 10) (hc : isC (p 0) (p 1) s.x s.y = true) : (reachL p s).length ≤ 100 := by
  obtain ⟨_, _, hW10, hH10⟩ := dims ha hb hc
  unfold reachL
  refine Nat.le_trans (List.length_filter_le _ _) ?_
  unfold yardL pasL
  exact Nat.le_trans (cellL_len _ _ _) (Nat.mul_le_mul hH10 hW10)
end Go.Proofs.Ytpifngdmlmfnhaa
/- The cells that two stakes have in common: both functions. No condition. -/
namespace Go.Proofs.Ytpifngdmlmfnhaa
set_option linter.unusedVariables false
set_option linter.unusedSimpArgs false
open Go.RowKit Mem Wk
namespace Wk
open Calm
variable {P : Program} {n : Nat} {O : List Nat} {w0 : World} {l : List (Nat × Value)} {N L : List (Nat × TypeId × Array Value)} {Q : Exit → Act → World → Prop} {ops : Array Oper} {o : Oper} {rest : List Oper} {k d : Nat} {pl : Nat → CalmB.Plan} {v : Value}
end Wk
attribute [local irreducible] Calls Wk.S Wk.C Wk.E Wk.X Wk.T Wk.Y Wk.andV Wk.shrV Calm.wpLex CalmB.wpLex bfsN
def notIn (l : List Sp) (c : Sp) : Bool := !(l.any fun s => eqSp c s)
set_option maxRecDepth 100000 in
theorem commonClo_any (lb : List Sp) (b gb n cap : Nat) (T T' : TypeId) (curb : Array Value) (c : Sp) (w : World) (hbx : w.heap[b]? = some (.cells #[.slice (some ⟨gb, 0, none⟩) lb.length cap] T (0, 0))) (hB : Ap 2 n cap curb (flS lb)) (hgb : w.heap[gb]? = some (.cells curb T' (0, 0))) (hlb : lb.length ≤ 1048576) :
    Calls Try.prog 193 #[.agg #[.int .i8 c.x, .int .i8 c.y], .pointer (some ⟨b, 0, none⟩)] w fun e w' => e = .returned (.bool (notIn lb c)) ∧ Below w.heap.size w w' := by
  have hmx : lb.length ≤ maxLen := by unfold maxLen; omega
  refine enter2 Try.func193 rfl rfl rfl (Own.start w) ?_
  repeat' (first
    | (refine s_g ?_; first
      | (refine s_k 8 rfl ?_; first | refine s_val rfl rfl rfl (r_ldo rfl rfl hbx (by simp) (ldv1 tb rfl rfl)) ?_ | (refine' s_val rfl rfl rfl (r_ldv rfl rfl ?qm ?qv) ?_; (case qm => (exact zMm)); (case qv => (exact zLe))) | (refine' s_val rfl rfl rfl (r_ldo rfl rfl ?qw (by simp) ?qv) ?_; (case qw => assumption); (case qv => (exact zLe))))
      | (refine s_k 1 rfl ?_; refine s_val rfl rfl rfl (r_assign rfl rfl) ?_)
      | (refine s_k 35 rfl ?_; (refine s_call Try.func145 (by kernel_rfl) rfl rfl rfl rfl rfl rfl (fun w hL => hasSpot_any lb c.x c.y _ _ _ (hB.slA (lenSp lb) (Kn.old hL hgb (by simp))) hmx) ?_))
      | (refine s_k 14 rfl ?_; refine s_val rfl rfl rfl (r_not rfl rfl) ?_)
      | (refine s_k 4 rfl ?_; first | refine s_boxA rfl rfl rfl rfl rfl fun blk => ?_ | refine s_box1 rfl rfl rfl rfl rfl rfl fun blk => ?_)
      | refine s_nil ?_)
    | (refine c_g ?_; first | refine c_seq ?_ | refine c_region ?_ | (refine c_gc ?_; first | refine c_cond1 rfl zTr ?_ | refine c_cond0 rfl zTr ?_ | refine z_condd1 rfl ?_ | refine z_condd0 rfl ?_ | refine z_conddn1 rfl ?_ | refine z_conddn0 rfl ?_ | refine c_condd rfl (fun hc => ?_) (fun hc => ?_) | refine c_conddn rfl (fun hc => ?_) (fun hc => ?_) | refine c_condn rfl (fun hc => ?_) (fun hc => ?_) | refine c_cond rfl (fun hc => ?_) (fun hc => ?_)) | refine c_block ?_ | refine c_skip ?_ | refine c_exit ?_ | refine c_ret ?_)
    | (refine e_g ?_; first | refine e_then ?_ | refine e_blkn ?_ | refine e_thenx ?_ | refine e_thenr ?_ | refine e_blkr ?_ | refine e_blkx ?_ | refine e_blky rfl ?_)
    | (refine e_ret1 (by simp) rfl (re_tmp rfl) fun w hL => ⟨rfl, hL.toBelow⟩))
def cmnL (la lb : List Sp) : List Sp := la.filter fun c => !notIn lb c
set_option maxRecDepth 100000 in
set_option maxHeartbeats 800000 in
theorem common_any (la lb : List Sp) (ga gb na nb capa capb : Nat) (cura curb : Array Value) (Ta Tb : TypeId) (w : World) (hA : Ap 2 na capa cura (flS la)) (hga : w.heap[ga]? = some (.cells cura Ta (0, 0))) (hB : Ap 2 nb capb curb (flS lb)) (hgb : w.heap[gb]? = some (.cells curb Tb (0, 0))) (hla : la.length ≤ 1048576) (hlb : lb.length ≤ 1048576) :
    Calls Try.prog 106 #[.slice (some ⟨ga, 0, none⟩) la.length capa, .slice (some ⟨gb, 0, none⟩) lb.length capb] w (NewS 88 2 (flS (cmnL la lb)) w) := by
  have hlt := (Array.getElem?_eq_some_iff.1 hgb).1
  refine enter2 Try.func106 rfl rfl rfl (Own.start w) ?_
  repeat' (first
    | (refine s_g ?_; first
      | (refine s_k 0 rfl ?_; refine s_val rfl rfl rfl (r_move rfl rfl) ?_)
      | (refine s_k 1 rfl ?_; refine s_val rfl rfl rfl (r_assign rfl rfl) ?_)
      | (refine s_k 35 rfl ?_; first | (refine s_callN Try.func192 (by kernel_rfl) rfl rfl rfl rfl rfl rfl (fun w hL => clone_any la ga 0 capa w (hA.slA (lenSp la) (Kn.old hL hga (by simp))) hla) fun g k cap cur hC => ?_) | (refine s_callM0 Try.func191 (by kernel_rfl) rfl rfl rfl rfl rfl rfl (fun w hL hg => delS_any la 193 _ [_] (notIn lb) _ _ _ _ w hC hg hla Try.func193 (by kernel_rfl) rfl (fun c hcm w' hb' => commonClo_any lb _ gb nb capb _ _ curb c w' (hb'.blk (hL.at_ m1) (Kn.ne0 hL m0)) hB (hb'.blk (Kn.old hL hgb (by simp)) (by have := hL.low _ List.mem_cons_self; simp at this; omega)) hlb)) fun cs hp => ?_))
      | (refine s_k 4 rfl ?_; first | refine s_boxA rfl rfl rfl rfl rfl fun blk => ?_ | refine s_box1 rfl rfl rfl rfl rfl rfl fun blk => ?_)
      | (refine s_k 18 rfl ?_; refine s_val rfl rfl rfl (r_func rfl rfl rfl) ?_)
      | refine s_nil ?_)
    | (refine c_g ?_; first | refine c_seq ?_ | refine c_region ?_ | (refine c_gc ?_; first | refine c_cond1 rfl zTr ?_ | refine c_cond0 rfl zTr ?_ | refine z_condd1 rfl ?_ | refine z_condd0 rfl ?_ | refine z_conddn1 rfl ?_ | refine z_conddn0 rfl ?_ | refine c_condd rfl (fun hc => ?_) (fun hc => ?_) | refine c_conddn rfl (fun hc => ?_) (fun hc => ?_) | refine c_condn rfl (fun hc => ?_) (fun hc => ?_) | refine c_cond rfl (fun hc => ?_) (fun hc => ?_)) | refine c_block ?_ | refine c_skip ?_ | refine c_exit ?_ | refine c_ret ?_)
    | (refine e_g ?_; first | refine e_then ?_ | refine e_blkn ?_ | refine e_thenx ?_ | refine e_thenr ?_ | refine e_blkr ?_ | refine e_blkx ?_ | refine e_blky rfl ?_)
    | (refine e_ret1 (by simp) rfl (re_tmp rfl) fun w hL => NewS.of hp hL m0))
theorem cmn_mask {p : Nat → Int} {a b : Sk} (hsb : b.ok) (ha : p 0 ≤ 10) (hb : p 1 ≤ 10) (hcb : isC (p 0) (p 1) b.x b.y = true) : ∀ c, inR c → (!notIn (reachL p b) c) = tbl (maskF p b) (ci c) := fun c hc => by
  rw [← mask_reach hsb ha hb hcb]
  unfold notIn
  rw [Bool.not_not, Bool.eq_iff_iff, List.any_eq_true]
  constructor
  · rintro ⟨s, hs, he⟩
    have e : c = s := by unfold eqSp at he; simp at he; obtain ⟨x, y⟩ := c; obtain ⟨u, v⟩ := s; simp at he; rw [he.1, he.2]
    subst e
    exact (cellL_mem hs).1
  · intro h
    obtain ⟨h1, h2, h3, h4⟩ := hc
    exact ⟨c, cellL_in h ⟨h1, by omega⟩ ⟨h3, by omega⟩, by unfold eqSp; simp⟩
end Go.Proofs.Ytpifngdmlmfnhaa
