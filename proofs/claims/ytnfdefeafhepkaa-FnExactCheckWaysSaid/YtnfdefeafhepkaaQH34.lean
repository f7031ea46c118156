import Derived.Test.YtnfdefeafhepkaaQH13
import Derived.Test.YtnfdefeafhepkaaQH14
import Derived.Test.YtnfdefeafhepkaaQH19
import Derived.Test.YtnfdefeafhepkaaQH21
import Derived.Test.YtnfdefeafhepkaaQH25
import Derived.Test.YtnfdefeafhepkaaQH33
/- Is one of the ways empty? The program's. No condition. -/
namespace Go.Proofs.Ytnfdefeafhepkaa
set_option linter.unusedVariables false
set_option linter.unusedSimpArgs false
open Go.RowKit Mem Wk
attribute [local irreducible] Calls Wk.S Wk.C Wk.E Wk.X Wk.T Wk.Y Wk.anV Wk.orV Wk.andV Wk.shlV Wk.shrV Calm.wpLex CalmB.wpLex bfsN
def mt (s : List Sp) : Bool := decide (s.length = 0)
set_option maxRecDepth 100000 in
theorem mtClo_any (A : Option Addr) (n cap : Nat) (w : World) : Calls Try.prog 47 #[.slice A n cap] w fun e w' => e = .returned (.bool (decide (n = 0))) ∧ Below w.heap.size w w' := by
  have h : decide ((n : Int) = 0) = decide (n = 0) := decide_eq_decide.2 (by omega)
  refine enter1 Try.func47 rfl rfl rfl (Own.start w) ?_
  repeat' (first
    | (refine s_g ?_; first
      | (refine s_k 0 rfl ?_; refine s_val rfl rfl rfl (r_move rfl rfl) ?_)
      | (refine s_k 1 rfl ?_; refine s_val rfl rfl rfl (r_assign rfl rfl) ?_)
      | (refine s_k 13 rfl ?_; refine s_val rfl rfl rfl (r_eql rfl rfl rfl) ?_)
      | (refine s_k 36 rfl ?_; refine s_val rfl rfl rfl (r_len tb rfl rfl rfl) ?_)
      | refine s_nil ?_)
    | (refine c_g ?_; first | refine c_seq ?_ | refine c_region ?_ | (refine c_gc ?_; first | refine c_cond1 rfl zTr ?_ | refine c_cond0 rfl zTr ?_ | refine z_condd1 rfl ?_ | refine z_condd0 rfl ?_ | refine z_conddn1 rfl ?_ | refine z_conddn0 rfl ?_ | refine c_condd rfl (fun hc => ?_) (fun hc => ?_) | refine c_conddn rfl (fun hc => ?_) (fun hc => ?_) | refine c_condn rfl (fun hc => ?_) (fun hc => ?_) | refine c_cond rfl (fun hc => ?_) (fun hc => ?_)) | refine c_block ?_ | refine c_skip ?_ | refine c_exit ?_ | refine c_ret ?_)
    | (refine e_g ?_; first | refine e_then ?_ | refine e_blkn ?_ | refine e_thenx ?_ | refine e_thenr ?_ | refine e_blkr ?_ | refine e_blkx ?_ | refine e_blky rfl ?_)
    | (refine e_ret1 (by simp) rfl (re_tmp rfl) fun w hL => ⟨by rw [h], hL.toBelow⟩))
set_option maxRecDepth 100000 in
set_option maxHeartbeats 800000 in
theorem ixMt_any (S : List (List Sp)) (V : List Value) (A : Option Addr) (cap : Nat) (w : World) (hS : SlA [] w 1 A (V.map fun u => [u])) (hVl : V.length = S.length) (hin : ∀ (k : Nat) (s : List Sp) (u : Value), S[k]? = some s → V[k]? = some u → Sl w 2 u (s.map Sp.cells)) (hn : S.length ≤ 1048576) :
    Calls Try.prog 97 #[.slice A V.length cap, .func (.func 47) #[] #[]] w fun e w' => e = .returned (.int .i64 (ixF mt S)) ∧ Below w.heap.size w w' := by
  refine enter2 Try.func97 rfl rfl rfl (Own.start w) ?_
  repeat' (first
    | (refine s_g ?_; first
      | (refine s_k 0 rfl ?_; refine s_val rfl rfl rfl (r_move rfl rfl) ?_)
      | (refine s_k 8 rfl ?_; first | (refine' s_val rfl rfl rfl (r_ldv rfl rfl ?qm ?qv) ?_; (case qm => (exact zMm)); (case qv => (exact zLe))) | (refine' s_val rfl rfl rfl (r_ldo rfl rfl ?qw (by simp) ?qv) ?_; (case qw => assumption); (case qv => (exact zLe))))
      | (refine s_k 1 rfl ?_; refine s_val rfl rfl rfl (r_assign rfl rfl) ?_)
      | (refine s_k 13 rfl ?_; first | refine s_val rfl rfl rfl (r_lss rfl rfl rfl) ?_ | refine s_val rfl rfl rfl (r_add rfl rfl rfl (wrap_in (by simp only [lo, hi]; omega))) ?_)
      | (refine s_k 25 rfl ?_; first | refine s_val rfl rfl rfl (r_ixN tb rfl rfl rfl rfl (by omega)) ?_ | refine s_val rfl rfl rfl (r_ixA tb rfl rfl rfl rfl (by omega) (by omega)) ?_ | refine s_val rfl rfl rfl (r_ixO tb rfl rfl rfl rfl (by omega)) ?_)
      | (refine s_k 36 rfl ?_; refine s_val rfl rfl rfl (r_len tb rfl rfl rfl) ?_)
      | refine s_nil ?_)
    | (refine c_g ?_; first | refine c_seq ?_ | refine c_region ?_ | (refine c_gc ?_; first | refine c_cond1 rfl zTr ?_ | refine c_cond0 rfl zTr ?_ | refine z_condd1 rfl ?_ | refine z_condd0 rfl ?_ | refine z_conddn1 rfl ?_ | refine z_conddn0 rfl ?_ | refine c_condd rfl (fun hc => ?_) (fun hc => ?_) | refine c_conddn rfl (fun hc => ?_) (fun hc => ?_) | refine c_condn rfl (fun hc => ?_) (fun hc => ?_) | refine c_cond rfl (fun hc => ?_) (fun hc => ?_)) | refine c_block ?_ | refine c_skip ?_ | refine c_exit ?_ | refine c_ret ?_)
    | (refine e_g ?_; first | refine e_then ?_ | refine e_blkn ?_ | refine e_thenx ?_ | refine e_thenr ?_ | refine e_blkr ?_ | refine e_blkx ?_ | refine e_blky rfl ?_))
  refine c_loop (ι := Nat) (fun k => S.length - k) (fun k => k ≤ S.length ∧ ∀ j c, j < k → S[j]? = some c → mt c = false) (fun k => [(8, .int .i64 (k : Int)), (7, .int .i64 (V.length : Int)), (0, .slice A V.length cap), (1, .func (.func 47) #[] #[])]) (fun _ => []) 0 ⟨by omega, fun j c hj => by omega⟩ ?hs rfl ?_
  case hs => (repeat' (first | exact sub_nil | refine sub_cons rfl ?_))
  rintro k ⟨hk, hF⟩
  by_cases hlt : k < S.length
  · have hx : S[k]? = some S[k] := List.getElem?_eq_getElem hlt
    have hu : V[k]? = some (V[k]'(by omega)) := List.getElem?_eq_getElem (by omega)
    have hin1 := hin k _ _ hx hu
    have hu' : (V.map fun u => [u])[k]? = some [V[k]'(by omega)] := by simp
    have hkl : k < (V.map fun u => [u]).length := by simp; omega
    generalize V[k]'(by omega) = u at *
    generalize S[k] = s at *
    obtain ⟨Au, capu, rfl, _, _, hSu⟩ := hin1.open
    rw [List.length_map] at hu hu' hin1
    have hcl := fun w => mtClo_any Au s.length capu w
    have hnext : decide (s.length = 0) = false → ∀ j c, j < k + 1 → S[j]? = some c → mt c = false := fun h j c hj hjc => by
      rcases Nat.lt_succ_iff_lt_or_eq.1 hj with h1 | h1
      · exact hF j c h1 hjc
      · rw [h1, hx] at hjc
        injection hjc with hjc
        rw [← hjc]; exact h
    cases hm : decide (s.length = 0)
    all_goals
      rw [hm] at hcl
      repeat' (first
        | (refine s_g ?_; first
      | (refine s_k 0 rfl ?_; refine s_val rfl rfl rfl (r_move rfl rfl) ?_)
      | (refine s_k 8 rfl ?_; first | refine s_val rfl rfl rfl (r_ldSb tb rfl hS rfl hu' rfl) ?_ | (refine' s_val rfl rfl rfl (r_ldv rfl rfl ?qm ?qv) ?_; (case qm => (exact zMm)); (case qv => (exact zLe))) | (refine' s_val rfl rfl rfl (r_ldo rfl rfl ?qw (by simp) ?qv) ?_; (case qw => assumption); (case qv => (exact zLe))))
      | (refine s_k 1 rfl ?_; refine s_val rfl rfl rfl (r_assign rfl rfl) ?_)
      | (refine s_k 13 rfl ?_; first | refine s_val rfl rfl rfl (r_lss rfl rfl rfl) ?_ | refine s_val rfl rfl rfl (r_add rfl rfl rfl (wrap_in (by simp only [lo, hi]; omega))) ?_)
      | (refine s_k 35 rfl ?_; refine s_callc (caps := []) Try.func47 (by kernel_rfl) rfl rfl rfl rfl rfl rfl rfl (fun w hL => hcl w) ?_)
      | (refine s_k 25 rfl ?_; first | refine s_val rfl rfl rfl (r_ixS tb rfl hS rfl rfl rfl (by simp) hkl) ?_ | refine s_val rfl rfl rfl (r_ixN tb rfl rfl rfl rfl (by omega)) ?_ | refine s_val rfl rfl rfl (r_ixA tb rfl rfl rfl rfl (by omega) (by omega)) ?_ | refine s_val rfl rfl rfl (r_ixO tb rfl rfl rfl rfl (by omega)) ?_)
      | (refine s_k 36 rfl ?_; refine s_val rfl rfl rfl (r_len tb rfl rfl rfl) ?_)
      | refine s_nil ?_)
        | (refine c_g ?_; first | refine c_seq ?_ | refine c_region ?_ | (refine c_gc ?_; first | refine c_cond1 rfl zTr ?_ | refine c_cond0 rfl zTr ?_ | refine z_condd1 rfl ?_ | refine z_condd0 rfl ?_ | refine z_conddn1 rfl ?_ | refine z_conddn0 rfl ?_ | refine c_condd rfl (fun hc => ?_) (fun hc => ?_) | refine c_conddn rfl (fun hc => ?_) (fun hc => ?_) | refine c_condn rfl (fun hc => ?_) (fun hc => ?_) | refine c_cond rfl (fun hc => ?_) (fun hc => ?_)) | refine c_block ?_ | refine c_skip ?_ | refine c_exit ?_ | refine c_ret ?_)
        | (refine e_g ?_; first | refine e_then ?_ | refine e_blkn ?_ | refine e_thenx ?_ | refine e_thenr ?_ | refine e_blkr ?_ | refine e_blkx ?_ | refine e_blky rfl ?_)
        | (refine e_ret1 (by simp) rfl (re_tmp rfl) fun w hL => ⟨by rw [ixF_some hx hm hF], hL.toBelow⟩)
        | (refine e_round (k + 1) (by omega) ⟨by omega, hnext hm⟩ ?_ rfl))
      all_goals (repeat' (first | exact sub_nil | refine sub_cons rfl ?_))
  · repeat' (first
      | (refine s_g ?_; first
      | (refine s_k 0 rfl ?_; refine s_val rfl rfl rfl (r_move rfl rfl) ?_)
      | (refine s_k 8 rfl ?_; first | (refine' s_val rfl rfl rfl (r_ldv rfl rfl ?qm ?qv) ?_; (case qm => (exact zMm)); (case qv => (exact zLe))) | (refine' s_val rfl rfl rfl (r_ldo rfl rfl ?qw (by simp) ?qv) ?_; (case qw => assumption); (case qv => (exact zLe))))
      | (refine s_k 1 rfl ?_; refine s_val rfl rfl rfl (r_assign rfl rfl) ?_)
      | (refine s_k 13 rfl ?_; first | refine s_val rfl rfl rfl (r_lss rfl rfl rfl) ?_ | refine s_val rfl rfl rfl (r_add rfl rfl rfl (wrap_in (by simp only [lo, hi]; omega))) ?_)
      | (refine s_k 25 rfl ?_; first | refine s_val rfl rfl rfl (r_ixN tb rfl rfl rfl rfl (by omega)) ?_ | refine s_val rfl rfl rfl (r_ixA tb rfl rfl rfl rfl (by omega) (by omega)) ?_ | refine s_val rfl rfl rfl (r_ixO tb rfl rfl rfl rfl (by omega)) ?_)
      | (refine s_k 36 rfl ?_; refine s_val rfl rfl rfl (r_len tb rfl rfl rfl) ?_)
      | refine s_nil ?_)
      | (refine c_g ?_; first | refine c_seq ?_ | refine c_region ?_ | (refine c_gc ?_; first | refine c_cond1 rfl zTr ?_ | refine c_cond0 rfl zTr ?_ | refine z_condd1 rfl ?_ | refine z_condd0 rfl ?_ | refine z_conddn1 rfl ?_ | refine z_conddn0 rfl ?_ | refine c_condd rfl (fun hc => ?_) (fun hc => ?_) | refine c_conddn rfl (fun hc => ?_) (fun hc => ?_) | refine c_condn rfl (fun hc => ?_) (fun hc => ?_) | refine c_cond rfl (fun hc => ?_) (fun hc => ?_)) | refine c_block ?_ | refine c_skip ?_ | refine c_exit ?_ | refine c_ret ?_)
      | (refine e_g ?_; first | refine e_then ?_ | refine e_blkn ?_ | refine e_thenx ?_ | refine e_thenr ?_ | refine e_blkr ?_ | refine e_blkx ?_ | refine e_blky rfl ?_)
      | (refine e_ret1 (by simp) rfl (re_tmp rfl) fun w hL => ⟨?_, hL.toBelow⟩))
    rw [ixF_none (fun c hc => by obtain ⟨j, hj⟩ := List.mem_iff_getElem?.1 hc; exact hF j c (by have := (List.getElem?_eq_some_iff.1 hj).1; omega) hj)]
set_option maxRecDepth 100000 in
theorem hasMt_any (S : List (List Sp)) (V : List Value) (A : Option Addr) (cap : Nat) (w : World) (hS : SlA [] w 1 A (V.map fun u => [u])) (hVl : V.length = S.length) (hin : ∀ (k : Nat) (s : List Sp) (u : Value), S[k]? = some s → V[k]? = some u → Sl w 2 u (s.map Sp.cells)) (hn : S.length ≤ 1048576) :
    Calls Try.prog 46 #[.slice A V.length cap, .func (.func 47) #[] #[]] w fun e w' => e = .returned (.bool (S.any mt)) ∧ Below w.heap.size w w' := by
  refine enter2 Try.func46 rfl rfl rfl (Own.start w) ?_
  repeat' (first
    | (refine s_g ?_; first
      | (refine s_k 0 rfl ?_; refine s_val rfl rfl rfl (r_move rfl rfl) ?_)
      | (refine s_k 1 rfl ?_; refine s_val rfl rfl rfl (r_assign rfl rfl) ?_)
      | (refine s_k 13 rfl ?_; refine s_val rfl rfl rfl (r_geq rfl rfl rfl) ?_)
      | (refine s_k 35 rfl ?_; (refine s_call Try.func97 (by kernel_rfl) rfl rfl rfl rfl rfl rfl (fun w hL => ixMt_any S V A cap _ (hS.at_ hL) hVl (fun k s u hs hu => (hin k s u hs hu).below hL.toBelow) hn) ?_))
      | refine s_nil ?_)
    | (refine c_g ?_; first | refine c_seq ?_ | refine c_region ?_ | (refine c_gc ?_; first | refine c_cond1 rfl zTr ?_ | refine c_cond0 rfl zTr ?_ | refine z_condd1 rfl ?_ | refine z_condd0 rfl ?_ | refine z_conddn1 rfl ?_ | refine z_conddn0 rfl ?_ | refine c_condd rfl (fun hc => ?_) (fun hc => ?_) | refine c_conddn rfl (fun hc => ?_) (fun hc => ?_) | refine c_condn rfl (fun hc => ?_) (fun hc => ?_) | refine c_cond rfl (fun hc => ?_) (fun hc => ?_)) | refine c_block ?_ | refine c_skip ?_ | refine c_exit ?_ | refine c_ret ?_)
    | (refine e_g ?_; first | refine e_then ?_ | refine e_blkn ?_ | refine e_thenx ?_ | refine e_thenr ?_ | refine e_blkr ?_ | refine e_blkx ?_ | refine e_blky rfl ?_)
    | (refine e_ret1 (by simp) rfl (re_tmp rfl) fun w hL => ⟨?_, hL.toBelow⟩))
  all_goals (rw [ixF_any]; done)
end Go.Proofs.Ytnfdefeafhepkaa
/- CheckWays: the code that the program answers is the reference's. Plain; no condition. -/
namespace Go.Proofs.Ytnfdefeafhepkaa
set_option linter.unusedVariables false
set_option linter.unusedSimpArgs false
open Go.RowKit Mem Wk
theorem badW_val {p : Nat → Int} (hv : validP p = true) (s : List Sp) : badW p s = ((s.any fun g => !isC (p 0) (p 1) g.x g.y) || mt s) := by
  unfold badW wayC cellC mt
  rw [hv]
  simp only [if_true]
  cases s.any fun g => !isC (p 0) (p 1) g.x g.y
  · by_cases h : s.length = 0 <;> simp [h]
  · simp
theorem any_or {α : Type} (f g : α → Bool) : ∀ l : List α, (l.any fun x => f x || g x) = (l.any f || l.any g)
  | [] => rfl
  | a :: l => by
    simp only [List.any_cons, any_or f g l]
    cases f a <;> cases g a <;> cases l.any f <;> cases l.any g <;> rfl
theorem wsC_fst (p : Nat → Int) (a b : List Sp) (S : List (List Sp)) : fstC [cellC p (a ++ b ++ S.flatten), if (!S.any mt) then 0 else 2] = wsC p a b S := by
  rw [cellC_app]
  unfold wsC
  by_cases h0 : cellC p (a ++ b) = 0
  · obtain ⟨hv, _⟩ := cellC_0 h0
    rw [if_pos h0, if_pos h0]
    have e : S.any (badW p) = ((S.flatten.any fun g => !isC (p 0) (p 1) g.x g.y) || S.any mt) := by
      rw [List.any_flatten, ← any_or]
      congr 1
      funext s
      exact badW_val hv s
    rw [e]
    unfold cellC
    rw [hv]
    simp only [if_true]
    cases S.flatten.any fun g => !isC (p 0) (p 1) g.x g.y <;> cases S.any mt <;> rfl
  · rw [if_neg h0, if_neg h0]
    unfold fstC
    rw [if_neg h0]
theorem alK_ok {q : Nat → Int} {a b : Sp} (h : okB q a b = true) : alK a b 4 = [btw a b] := by
  obtain ⟨s, hs, _, rfl⟩ := okB_side h
  rw [alK_one a hs, btw_nxt a s (by omega)]
theorem wayP_ex {p : Nat → Int} {cs : Array Value} (hp : Pv p cs) {a b : Sp} (h : okB p a b = true) (ha : inR a) : ∃ c', Pv (stS p a b) c' := by
  have := btw_ok h ha
  exact putP_ex hp this.2
theorem wayB_no {p : Nat → Int} {l : List Sp} {k : Nat} (hk : k + 1 < l.length) (h : wayK p l k = false) : wayB p l = false := by
  rw [Bool.eq_false_iff]
  intro h2
  have := List.all_eq_true.1 h2 k (List.mem_range.2 (by omega))
  rw [h] at this; cases this
theorem wayB_yes {p : Nat → Int} {l : List Sp} (h : ∀ j, j < l.length - 1 → wayK p l j = true) : wayB p l = true := List.all_eq_true.2 fun j hj => h j (List.mem_range.1 hj)
end Go.Proofs.Ytnfdefeafhepkaa
/- Winding: sums over walks that are parted, joined, turned round. Plain, no condition. -/
namespace Go.Proofs.Ytnfdefeafhepkaa
set_option linter.unusedVariables false
set_option linter.unusedSimpArgs false
open Go.RowKit Mem Wk

theorem WkOk.rev {p : Nat → Int} {a : Sp} {l : List Sp} (h : WkOk p a l) : WkOk p a l.reverse := by
  refine ⟨fun c hc => h.cell c (List.mem_reverse.1 hc), fun i s t hs ht => ?_⟩
  have h1 := (List.getElem?_eq_some_iff.1 ht).1
  rw [List.length_reverse] at h1
  rw [List.getElem?_reverse (by omega)] at hs
  rw [List.getElem?_reverse (by omega)] at ht
  have h2 := h.step (l.length - 1 - (i + 1)) t s ht (by rw [show l.length - 1 - (i + 1) + 1 = l.length - 1 - i by omega]; exact hs)
  exact wkStep_symm (h.cell t (List.mem_of_getElem? ht)).1 h2
theorem WkOk.take {p : Nat → Int} {a : Sp} {l : List Sp} (h : WkOk p a l) (k : Nat) : WkOk p a (l.take k) := by
  refine ⟨fun c hc => h.cell c (List.mem_of_mem_take hc), fun i s t hs ht => ?_⟩
  rw [List.getElem?_take] at hs ht
  split at ht
  · rw [if_pos (by omega)] at hs; exact h.step i s t hs ht
  · cases ht
theorem WkOk.drop {p : Nat → Int} {a : Sp} {l : List Sp} (h : WkOk p a l) (k : Nat) : WkOk p a (l.drop k) := by
  refine ⟨fun c hc => h.cell c (List.mem_of_mem_drop hc), fun i s t hs ht => ?_⟩
  rw [List.getElem?_drop] at hs ht
  exact h.step (k + i) s t hs (by rw [Nat.add_assoc]; exact ht)
theorem WkOk.append {p : Nat → Int} {a : Sp} {l m : List Sp} (hl : WkOk p a l) (hm : WkOk p a m) (hj : ∀ s t, l[l.length - 1]? = some s → m[0]? = some t → wkStep p s t = true) : WkOk p a (l ++ m) := by
  refine ⟨fun c hc => (List.mem_append.1 hc).elim (hl.cell c) (hm.cell c), fun i s t hs ht => ?_⟩
  by_cases h1 : i + 1 < l.length
  · rw [List.getElem?_append_left h1] at ht
    rw [List.getElem?_append_left (by omega)] at hs
    exact hl.step i s t hs ht
  · by_cases h2 : i + 1 = l.length
    · rw [List.getElem?_append_left (by omega)] at hs
      rw [List.getElem?_append_right (by omega), show i + 1 - l.length = 0 by omega] at ht
      exact hj s t (by rw [show l.length - 1 = i by omega]; exact hs) ht
    · rw [List.getElem?_append_right (by omega)] at hs ht
      exact hm.step (i - l.length) s t hs (by rw [show i - l.length + 1 = i + 1 - l.length by omega]; exact ht)
theorem rev_head {l : List Sp} (h : 0 < l.length) : ∃ s, l[l.length - 1]? = some s ∧ l.reverse[0]? = some s := by
  have hx : l[l.length - 1]? = some (l[l.length - 1]'(by omega)) := List.getElem?_eq_getElem _
  exact ⟨_, hx, by rw [List.getElem?_reverse (by omega)]; exact hx⟩
theorem WkOk.round {p : Nat → Int} {a : Sp} {l : List Sp} (h : WkOk p a l) (hl : 0 < l.length) : WkOk p a (l ++ l.reverse) := by
  refine h.append h.rev fun s t hs ht => ?_
  obtain ⟨u, h1, h2⟩ := rev_head hl
  rw [h1] at hs; rw [h2] at ht
  injection hs with hs; injection ht with ht
  subst hs; subst ht; exact wkStep_self p _
end Go.Proofs.Ytnfdefeafhepkaa
/- WindsOf, RopeLeft: both functions. No condition. -/
namespace Go.Proofs.Ytnfdefeafhepkaa
set_option linter.unusedVariables false
set_option linter.unusedSimpArgs false
open Go.RowKit Mem Wk
attribute [local irreducible] Calls Wk.S Wk.C Wk.E Wk.X Wk.T Wk.Y Calm.wpLex CalmB.wpLex
theorem Sl.drop {w : World} {g off n cap k : Nat} {xs : List (List Value)} {sz : Nat} (h : Sl w sz (.slice (some ⟨g, off, none⟩) n cap) xs) (hk : k ≤ n) : Sl w sz (.slice (some ⟨g, off + k * sz, none⟩) (n - k) (cap - k)) (xs.drop k) := by
  obtain ⟨A, cp, e, h1, h2, h3⟩ := h
  injection e with e1 e2 e3
  subst e1; subst e2; subst e3
  refine ⟨_, cap - k, by rw [List.length_drop], by rw [List.length_drop]; omega, by omega, fun i c hc => ?_⟩
  have hS : SlA [] w sz (some ⟨g, off, none⟩) xs := fun i c hc => by
    obtain ⟨q1, b, o, q2, q3⟩ := h3 i c hc
    exact ⟨q1, b, o, q2, by simp, q3⟩
  obtain ⟨q1, b, o, q2, _, q3⟩ := hS.drop k i c hc
  exact ⟨q1, b, o, q2, q3⟩
end Go.Proofs.Ytnfdefeafhepkaa
/- CheckWays: joined lists in a drawn region. No condition but lengths. -/
namespace Go.Proofs.Ytnfdefeafhepkaa
set_option linter.unusedVariables false
set_option linter.unusedSimpArgs false
open Go.RowKit Mem Wk
/-- what some blocks hold, told of a world -/
def Holds (N : List (Nat × TypeId × Array Value)) (w : World) : Prop := ∀ x ∈ N, w.heap[x.1]? = some (.cells x.2.2 x.2.1 (0, 0))
/-- a slice of the cells F, told by what some blocks hold -/
def CatP (F : List Sp) (i : (Option Addr × Nat) × List (Nat × TypeId × Array Value)) : Prop := ∀ w, Holds i.2 w → Sl w 2 (.slice i.1.1 F.length i.1.2) (F.map Sp.cells)
theorem catP_ex {F : List Sp} (h : F.length ≤ 1048576) : ∃ i, CatP F i := by
  have hl := flS_len F
  refine ⟨((some ⟨0, 0, none⟩, F.length), [(0, 66, (flS F).toArray)]), fun w hh => ?_⟩
  have hA : Ap 2 F.length F.length (flS F).toArray (flS F) := ⟨hl, Nat.le_refl _, by unfold maxLen; omega, by simpa using hl, by rw [← hl]; simp⟩
  exact hA.toSl (lenSp F) (by omega) (hh _ List.mem_cons_self)
theorem concat_any (S : List (List Sp)) (V : List Value) (g cap : Nat) (cur : Array Value) (T : TypeId) (w : World) (hg : w.heap[g]? = some (.cells cur T (0, 0))) (hV : SSs w S V cur) (hn : S.flatten.length ≤ 1048576) (hS : S.length ≤ 1048576) :
    Calls Try.prog 50 #[.slice (some ⟨g, 0, none⟩) S.length cap] w fun e w' => ∃ i : (Option Addr × Nat) × List (Nat × TypeId × Array Value), CatP S.flatten i ∧ e = .returned (.slice i.1.1 S.flatten.length i.1.2) ∧ Kn [] w w' i.2 := by
  by_cases h0 : 0 < S.flatten.length
  · refine (concat_some S V g cap cur T w hg hV hn hS h0).mono fun e w' ⟨gc, k, capc, curc, he, hA, hge, hat, hb⟩ => ?_
    obtain rfl := hA.cnt
    exact ⟨((some ⟨gc, 0, none⟩, capc), [(gc, 66, curc)]), fun w'' hh => hA.toSl (lenSp S.flatten) (by omega) (hh _ List.mem_cons_self), he, Own.add (Own.start w) hb hge hat⟩
  · have h1 : S.flatten.length = 0 := by omega
    have h2 : S.flatten = [] := List.length_eq_zero_iff.1 h1
    refine (concat_none S V g cap cur T w hg hV hS h1).mono fun e w' ⟨he, hb⟩ => ⟨((none, 0), []), fun w'' _ => ?_, by rw [he, h1], Own.ext (Own.start w) hb⟩
    rw [h2]; exact sl_nil _ _
theorem slSS3 (a b c : Option Addr) (m n k d e f : Nat) (w : World) : (Instr.buildSlice 40 3 #[(0, .slice a m d), (1, .slice b n e), (2, .slice c k f)]).run Try.prog w = .ok (.slice (some ⟨w.heap.size, 0, none⟩) 3 3) (w.alloc (.cells #[.slice a m d, .slice b n e, .slice c k f] 38 (0, 0))) := by kernel_rfl
theorem SSs.three {w : World} {a b c : List Sp} {va vb vc : Value} (h1 : Sl w 2 va (a.map Sp.cells)) (h2 : Sl w 2 vb (b.map Sp.cells)) (h3 : Sl w 2 vc (c.map Sp.cells)) : SSs w [a, b, c] [va, vb, vc] #[va, vb, vc] := by
  refine ⟨rfl, fun j v hv => ?_, fun j s v hs hv => ?_⟩
  · match j, hv with
    | 0, hv => simpa using hv
    | 1, hv => simpa using hv
    | 2, hv => simpa using hv
  · match j, hs, hv with
    | 0, hs, hv =>
      simp at hs hv; subst hs; subst hv; exact h1
    | 1, hs, hv =>
      simp at hs hv; subst hs; subst hv; exact h2
    | 2, hs, hv =>
      simp at hs hv; subst hs; subst hv; exact h3
namespace Wk
variable {P : Program} {n : Nat} {O : List Nat} {w0 : World} {l : List (Nat × Value)} {N L : List (Nat × TypeId × Array Value)} {Q : Exit → Act → World → Prop} {ops : Array Oper} {o : Oper} {rest : List Oper} {kk d : Nat} {v : Value} {x y : Operand} {Nok : List (Nat × TypeId × Array Value) → Prop} {pl : Nat → CalmE.Plan (List (Nat × TypeId × Array Value))}
end Wk
end Go.Proofs.Ytnfdefeafhepkaa
