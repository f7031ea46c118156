import Derived.Test.YtnafnhpajkhgkaaQY19
import Derived.Test.YtnafnhpajkhgkaaQY20
/- DeleteFunc of hurdles by a function that has its first arguments already (a method of a value). No condition but a length of at most 2^20. -/
namespace Go.Proofs.Ytnafnhpajkhgkaa
set_option linter.unusedVariables false
set_option linter.unusedSimpArgs false
open Go.RowKit Mem Wk
attribute [local irreducible] Calls Wk.S Wk.C Wk.E Wk.X Wk.T Calm.wpLex
def LooksB (w : World) (cf : FuncId) (fs caps : List Value) (f : List Value → Bool) (xs : List (List Value)) : Prop :=
  ∀ c ∈ xs, ∀ w', Below w.heap.size w w' → Calls Try.prog cf (fs ++ [Value.agg c.toArray] ++ caps).toArray w' fun e w'' => e = .returned (.bool (f c)) ∧ Below w'.heap.size w' w''
def LooksXHb (w : World) (g : Nat) (cf : FuncId) (fs caps : List Value) (f : Hd → Bool) (l : List Hd) : Prop :=
  ∀ s ∈ l, ∀ w', BelowX g w w' → Calls Try.prog cf (fs ++ [Value.agg s.cells.toArray] ++ caps).toArray w' fun e w'' => e = .returned (.bool (f s)) ∧ Below w'.heap.size w' w''
set_option maxRecDepth 100000 in
theorem ixHb_any (xs : List (List Value)) (A : Option Addr) (cap : Nat) (cf : FuncId) (fn : Func) (fs caps : List Value) (f : List Value → Bool) (w : World) (hS : SlA [] w 3 A xs) (hn : xs.length ≤ maxLen) (hf : Try.prog.funcs[cf]? = some fn) (hname : (fn.name == "runtime.NumGoroutine") = false) (hb : fn.body.isSome = true) (hc : LooksB w cf fs caps f xs) :
    Calls Try.prog 96 #[.slice A xs.length cap, .func (.func cf) fs.toArray caps.toArray] w fun e w' => e = .returned (.int .i64 (ixF f xs)) ∧ Below w.heap.size w w' := by
  unfold maxLen at hn
  refine enter2 Try.func96 rfl rfl rfl (Own.start w) ?_
  repeat' (first
    | (refine s_g ?_; first
      | (refine s_k 0 rfl ?_; refine s_val rfl rfl rfl (r_move rfl rfl) ?_)
      | (refine s_k 8 rfl ?_; first | (refine' s_val rfl rfl rfl (r_ldv rfl rfl ?qm ?qv) ?_; (case qm => (exact zMm)); (case qv => (exact zLe))) | (refine' s_val rfl rfl rfl (r_ldo rfl rfl ?qw (by simp) ?qv) ?_; (case qw => assumption); (case qv => (exact zLe))))
      | (refine s_k 1 rfl ?_; refine s_val rfl rfl rfl (r_assign rfl rfl) ?_)
      | (refine s_k 13 rfl ?_; first | refine s_val rfl rfl rfl (r_lss rfl rfl rfl) ?_ | refine s_val rfl rfl rfl (r_add rfl rfl rfl (wrap_in (by simp only [lo, hi]; omega))) ?_)
      | (refine s_k 25 rfl ?_; first | refine s_val rfl rfl rfl (r_ixN tb rfl rfl rfl rfl (by omega)) ?_ | refine s_val rfl rfl rfl (r_ixA tb rfl rfl rfl rfl (by omega) (by omega)) ?_ | refine s_val rfl rfl rfl (r_ixO tb rfl rfl rfl rfl (by omega)) ?_)
      | (refine s_k 36 rfl ?_; refine s_val rfl rfl rfl (r_len tb rfl rfl rfl) ?_)
      | refine s_nil ?_)
    | (refine c_g ?_; first | refine c_seq ?_ | refine c_region ?_ | (refine c_gc ?_; first | refine c_cond1 rfl zTr ?_ | refine c_cond0 rfl zTr ?_ | refine z_condd1 rfl ?_ | refine z_condd0 rfl ?_ | refine z_conddn1 rfl ?_ | refine z_conddn0 rfl ?_ | refine c_condd rfl (fun hc => ?_) (fun hc => ?_) | refine c_conddn rfl (fun hc => ?_) (fun hc => ?_) | refine c_condn rfl (fun hc => ?_) (fun hc => ?_) | refine c_cond rfl (fun hc => ?_) (fun hc => ?_)) | refine c_block ?_ | refine c_skip ?_ | refine c_exit ?_ | refine c_ret ?_)
    | (refine e_g ?_; first | refine e_then ?_ | refine e_blkn ?_ | refine e_thenx ?_ | refine e_thenr ?_ | refine e_blkr ?_ | refine e_blkx ?_ | refine e_blky rfl ?_))
  refine c_loop (fun k : Nat => xs.length - k) (fun k => k ≤ xs.length ∧ ∀ j c, j < k → xs[j]? = some c → f c = false) (fun k => [(8, .int .i64 (k : Int)), (7, .int .i64 (xs.length : Int)), (0, .slice A xs.length cap), (1, .func (.func cf) fs.toArray caps.toArray)]) (fun _ => []) 0 ⟨by omega, fun j c hj => by omega⟩ ?hs rfl ?_
  case hs => exact sub_cons rfl (sub_cons rfl (sub_cons rfl (sub_cons rfl sub_nil)))
  rintro k ⟨hk, hF⟩
  by_cases hlt : k < xs.length
  · have hx : xs[k]? = some xs[k] := List.getElem?_eq_getElem hlt
    repeat' (first
      | (refine s_g ?_; first
      | (refine s_k 0 rfl ?_; refine s_val rfl rfl rfl (r_move rfl rfl) ?_)
      | (refine s_k 8 rfl ?_; first | refine s_val rfl rfl rfl (r_ldS tb rfl hS rfl hx rfl) ?_ | (refine' s_val rfl rfl rfl (r_ldv rfl rfl ?qm ?qv) ?_; (case qm => (exact zMm)); (case qv => (exact zLe))) | (refine' s_val rfl rfl rfl (r_ldo rfl rfl ?qw (by simp) ?qv) ?_; (case qw => assumption); (case qv => (exact zLe))))
      | (refine s_k 1 rfl ?_; refine s_val rfl rfl rfl (r_assign rfl rfl) ?_)
      | (refine s_k 13 rfl ?_; first | refine s_val rfl rfl rfl (r_lss rfl rfl rfl) ?_ | refine s_val rfl rfl rfl (r_add rfl rfl rfl (wrap_in (by simp only [lo, hi]; omega))) ?_)
      | (refine s_k 35 rfl ?_; refine s_callb hf hname hb rfl rfl rfl rfl rfl rfl (fun w hL => hc _ (List.getElem_mem hlt) _ hL.toBelow) ?_)
      | (refine s_k 25 rfl ?_; first | refine s_val rfl rfl rfl (r_ixS tb rfl hS rfl rfl rfl rfl hlt) ?_ | refine s_val rfl rfl rfl (r_ixN tb rfl rfl rfl rfl (by omega)) ?_ | refine s_val rfl rfl rfl (r_ixA tb rfl rfl rfl rfl (by omega) (by omega)) ?_ | refine s_val rfl rfl rfl (r_ixO tb rfl rfl rfl rfl (by omega)) ?_)
      | (refine s_k 36 rfl ?_; refine s_val rfl rfl rfl (r_len tb rfl rfl rfl) ?_)
      | refine s_nil ?_)
      | (refine c_g ?_; first | refine c_seq ?_ | refine c_region ?_ | (refine c_gc ?_; first | refine c_cond1 rfl zTr ?_ | refine c_cond0 rfl zTr ?_ | refine z_condd1 rfl ?_ | refine z_condd0 rfl ?_ | refine z_conddn1 rfl ?_ | refine z_conddn0 rfl ?_ | refine c_condd rfl (fun hc => ?_) (fun hc => ?_) | refine c_conddn rfl (fun hc => ?_) (fun hc => ?_) | refine c_condn rfl (fun hc => ?_) (fun hc => ?_) | refine c_cond rfl (fun hc => ?_) (fun hc => ?_)) | refine c_block ?_ | refine c_skip ?_ | refine c_exit ?_ | refine c_ret ?_)
      | (refine e_g ?_; first | refine e_then ?_ | refine e_blkn ?_ | refine e_thenx ?_ | refine e_thenr ?_ | refine e_blkr ?_ | refine e_blkx ?_ | refine e_blky rfl ?_)
      | (refine e_ret1 (by simp) rfl (re_tmp rfl) fun w hL => ⟨?_, hL.toBelow⟩)
      | (refine e_round (k + 1) (by omega) ⟨by omega, fun j c hj hjc => ?_⟩ ?hs rfl; case hs => exact sub_cons rfl (sub_cons rfl (sub_cons rfl (sub_cons rfl sub_nil)))))
    · rw [ixF_some hx (by assumption) hF]
    · by_cases e : j = k
      · subst e; rw [hx] at hjc; injection hjc with hjc; subst hjc; assumption
      · exact hF j c (by omega) hjc
  · repeat' (first
      | (refine s_g ?_; first
      | (refine s_k 0 rfl ?_; refine s_val rfl rfl rfl (r_move rfl rfl) ?_)
      | (refine s_k 8 rfl ?_; first | (refine' s_val rfl rfl rfl (r_ldv rfl rfl ?qm ?qv) ?_; (case qm => (exact zMm)); (case qv => (exact zLe))) | (refine' s_val rfl rfl rfl (r_ldo rfl rfl ?qw (by simp) ?qv) ?_; (case qw => assumption); (case qv => (exact zLe))))
      | (refine s_k 1 rfl ?_; refine s_val rfl rfl rfl (r_assign rfl rfl) ?_)
      | (refine s_k 13 rfl ?_; first | refine s_val rfl rfl rfl (r_lss rfl rfl rfl) ?_ | refine s_val rfl rfl rfl (r_add rfl rfl rfl (wrap_in (by simp only [lo, hi]; omega))) ?_)
      | (refine s_k 25 rfl ?_; first | refine s_val rfl rfl rfl (r_ixN tb rfl rfl rfl rfl (by omega)) ?_ | refine s_val rfl rfl rfl (r_ixA tb rfl rfl rfl rfl (by omega) (by omega)) ?_ | refine s_val rfl rfl rfl (r_ixO tb rfl rfl rfl rfl (by omega)) ?_)
      | (refine s_k 36 rfl ?_; refine s_val rfl rfl rfl (r_len tb rfl rfl rfl) ?_)
      | refine s_nil ?_)
      | (refine c_g ?_; first | refine c_seq ?_ | refine c_region ?_ | (refine c_gc ?_; first | refine c_cond1 rfl zTr ?_ | refine c_cond0 rfl zTr ?_ | refine z_condd1 rfl ?_ | refine z_condd0 rfl ?_ | refine z_conddn1 rfl ?_ | refine z_conddn0 rfl ?_ | refine c_condd rfl (fun hc => ?_) (fun hc => ?_) | refine c_conddn rfl (fun hc => ?_) (fun hc => ?_) | refine c_condn rfl (fun hc => ?_) (fun hc => ?_) | refine c_cond rfl (fun hc => ?_) (fun hc => ?_)) | refine c_block ?_ | refine c_skip ?_ | refine c_exit ?_ | refine c_ret ?_)
      | (refine e_g ?_; first | refine e_then ?_ | refine e_blkn ?_ | refine e_thenx ?_ | refine e_thenr ?_ | refine e_blkr ?_ | refine e_blkx ?_ | refine e_blky rfl ?_)
      | (refine e_ret1 (by simp) rfl (re_tmp rfl) fun w hL => ⟨?_, hL.toBelow⟩))
    rw [ixF_none (fun c hc => by obtain ⟨j, hj⟩ := List.mem_iff_getElem?.1 hc; exact hF j c (by have := (List.getElem?_eq_some_iff.1 hj).1; omega) hj)]
set_option maxRecDepth 100000 in
set_option maxHeartbeats 1600000 in
theorem delHb_any (l : List Hd) (cf : FuncId) (fn : Func) (fs caps : List Value) (f : Hd → Bool) (g n cap : Nat) (cur : Array Value) (w : World) (hA : Ap 3 n cap cur (flH l)) (hg : w.heap[g]? = some (.cells cur 66 (0, 0))) (hn : l.length ≤ 1048576) (hf : Try.prog.funcs[cf]? = some fn) (hname : (fn.name == "runtime.NumGoroutine") = false) (hb : fn.body.isSome = true) (hc : LooksXHb w g cf fs caps f l) :
    Calls Try.prog 64 #[.slice (some ⟨g, 0, none⟩) n cap, .func (.func cf) fs.toArray caps.toArray] w fun e w' => e = .returned (.slice (some ⟨g, 0, none⟩) (l.filter fun s => !f s).length cap) ∧ ∃ cs', Ap 3 (l.filter fun s => !f s).length cap cs' (flH (l.filter fun s => !f s)) ∧ Upd w w' g 66 cs' := by
  obtain rfl : n = l.length := by simpa using hA.count (lenHd l) (by omega)
  have hcap := hA.le
  have hmx := hA.max
  have hsz := hA.size
  have hlook : ∀ w', Kn [g] w w' [(g, 66, cur)] → LooksB w' cf fs caps (fun c => f (hdOf c)) (l.map Hd.cells) := fun w' hL c hcm w'' hb' => by
    obtain ⟨s, hs, rfl⟩ := List.mem_map.1 hcm
    exact hc s hs w'' ((BelowX.of hL).tr hb')
  have hix : ∀ r : Int, ixF (fun c => f (hdOf c)) (l.map Hd.cells) = r → ∀ w', Kn [g] w w' [(g, 66, cur)] → Calls Try.prog 96 #[.slice (some ⟨g, 0, none⟩) l.length cap, .func (.func cf) fs.toArray caps.toArray] w' fun e w'' => e = .returned (.int .i64 r) ∧ Below w'.heap.size w' w'' := fun r hr w' hL => by
    have h := ixHb_any (l.map Hd.cells) (some ⟨g, 0, none⟩) cap cf fn fs caps (fun c => f (hdOf c)) w' (hA.slH (hL.at_ m0)).2 (by rw [List.length_map]; unfold maxLen; omega) hf hname hb (hlook w' hL)
    rw [hr, List.length_map] at h; exact h
  by_cases hex : ∃ s ∈ l, f s = true
  case neg =>
    have hall : ∀ s ∈ l, f s = false := fun s hs => by
      cases h : f s
      · rfl
      · exact absurd ⟨s, hs, h⟩ hex
    have hfl : (l.filter fun s => !f s) = l := List.filter_eq_self.2 fun s hs => by rw [hall s hs]; rfl
    have hm1 : ixF (fun c => f (hdOf c)) (l.map Hd.cells) = -1 := ixF_none fun c hcm => by
      obtain ⟨s, hs, rfl⟩ := List.mem_map.1 hcm
      exact hall s hs
    rw [hfl]
    refine enter2 Try.func64 rfl rfl rfl (Own.startAt w hg) ?_
    repeat' (first
      | (refine s_g ?_; first
      | (refine s_k 0 rfl ?_; refine s_val rfl rfl rfl (r_move rfl rfl) ?_)
      | (refine s_k 8 rfl ?_; first | (refine' s_val rfl rfl rfl (r_ldv rfl rfl ?qm ?qv) ?_; (case qm => (exact zMm)); (case qv => (exact zLe))) | (refine' s_val rfl rfl rfl (r_ldo rfl rfl ?qw (by simp) ?qv) ?_; (case qw => assumption); (case qv => (exact zLe))))
      | (refine s_k 1 rfl ?_; refine s_val rfl rfl rfl (r_assign rfl rfl) ?_)
      | (refine s_k 13 rfl ?_; first | refine s_val rfl rfl rfl (r_lss rfl rfl rfl) ?_ | refine s_val rfl rfl rfl (r_eql rfl rfl rfl) ?_ | refine s_val rfl rfl rfl (r_add rfl rfl rfl (wrap_in (by simp only [lo, hi]; omega))) ?_)
      | (refine s_k 35 rfl ?_; (refine s_call Try.func96 (by kernel_rfl) rfl rfl rfl rfl rfl rfl (fun w hL => hix (-1) hm1 w hL) ?_))
      | (refine s_k 14 rfl ?_; refine s_val rfl rfl rfl (r_not rfl rfl) ?_)
      | (refine s_k 25 rfl ?_; first | refine s_val rfl rfl rfl (r_ixN tb rfl rfl rfl rfl (by omega)) ?_ | refine s_val rfl rfl rfl (r_ixA tb rfl rfl rfl rfl (by omega) (by omega)) ?_ | refine s_val rfl rfl rfl (r_ixO tb rfl rfl rfl rfl (by omega)) ?_)
      | (refine s_k 9 rfl ?_; (first | refine s_st1 tb rfl rfl rfl rfl rfl rfl rfl rfl ?_ | refine s_stA tb rfl rfl rfl rfl (by first | rfl | assumption | (apply Pv.size; assumption)) rfl rfl ?_); (first | refine' st0 ?qs ?_ | refine' st1 ?qs ?_ | refine' st2 ?qs ?_ | refine' st3 ?qs ?_ | refine' st4 ?qs ?_ | refine' st5 ?qs ?_ | refine' st6 ?qs ?_ | refine' st7 ?qs ?_ | refine' st8 ?qs ?_ | refine' st9 ?qs ?_ | refine' st10 ?qs ?_ | refine' st11 ?qs ?_); (case qs => (first | exact zSet)))
      | (refine s_k 36 rfl ?_; refine s_val rfl rfl rfl (r_len tb rfl rfl rfl) ?_)
      | refine s_nil ?_)
      | (refine c_g ?_; first | refine c_seq ?_ | refine c_region ?_ | (refine c_gc ?_; first | refine c_cond1 rfl zTr ?_ | refine c_cond0 rfl zTr ?_ | refine z_condd1 rfl ?_ | refine z_condd0 rfl ?_ | refine z_conddn1 rfl ?_ | refine z_conddn0 rfl ?_ | refine c_condd rfl (fun hc => ?_) (fun hc => ?_) | refine c_conddn rfl (fun hc => ?_) (fun hc => ?_) | refine c_condn rfl (fun hc => ?_) (fun hc => ?_) | refine c_cond rfl (fun hc => ?_) (fun hc => ?_)) | refine c_block ?_ | refine c_skip ?_ | refine c_exit ?_ | refine c_ret ?_)
      | (refine e_g ?_; first | refine e_then ?_ | refine e_blkn ?_ | refine e_thenx ?_ | refine e_thenr ?_ | refine e_blkr ?_ | refine e_blkx ?_ | refine e_blky rfl ?_)
      | (refine e_ret1 (by simp) rfl (re_tmp rfl) fun w hL => ⟨rfl, _, hA, Upd.of hL m0⟩))
  case pos =>
    obtain ⟨k0, s0, hk0, hfs0, hmin⟩ : ∃ k0 s0, l[k0]? = some s0 ∧ f s0 = true ∧ ∀ j s, j < k0 → l[j]? = some s → f s = false := by
      have hlt : l.findIdx f < l.length := List.findIdx_lt_length.2 hex
      refine ⟨l.findIdx f, l[l.findIdx f], List.getElem?_eq_getElem hlt, List.findIdx_getElem, fun j s hj hs => ?_⟩
      have h1 := List.not_of_lt_findIdx hj
      have h2 := (List.getElem?_eq_some_iff.1 hs).2
      rw [h2] at h1
      simpa using h1
    have hk0l : k0 < l.length := (List.getElem?_eq_some_iff.1 hk0).1
    have hm1 : ixF (fun c => f (hdOf c)) (l.map Hd.cells) = (k0 : Int) := ixF_some (a := s0.cells) (by simp [hk0]) hfs0 fun j c hj hcj => by
      rw [List.getElem?_map] at hcj
      obtain ⟨s, hs, rfl⟩ := Option.map_eq_some_iff.1 hcj
      exact hmin j s hj hs
    have hpre : (l.take k0).filter (fun s => !f s) = l.take k0 := List.filter_eq_self.2 fun s hs => by
      obtain ⟨j, hj⟩ := List.mem_iff_getElem?.1 hs
      rw [List.getElem?_take] at hj
      split at hj
      · rename_i hlt
        rw [hmin j s hlt hj]; rfl
      · cases hj
    have hi0 : ((l.take (k0 + 1)).filter fun s => !f s).length = k0 := by
      rw [filt_succH hk0, hpre, hfs0]; simp; omega
    have hK : (l.filter fun s => !f s) = l.take k0 ++ ((l.drop k0).filter fun s => !f s) := by
      conv => lhs; rw [← List.take_append_drop k0 l]
      rw [List.filter_append, hpre]
    have hel : ∀ m s, l[m]? = some s → ∀ t, t < 3 → cur[m * 3 + t]? = s.cells[t]? := fun m s hs t ht => hA.elem (lenHd l) (by simp [hs]) t ht
    generalize hKK : (l.filter fun s => !f s) = K at *
    have hP0 : Pt 3 cur (K.map Hd.cells) k0 := fun m c hm hcm t ht => by
      rw [List.getElem?_map, hK, List.getElem?_append_left (by simp; omega), List.getElem?_take, if_pos hm] at hcm
      obtain ⟨s, hs, rfl⟩ := Option.map_eq_some_iff.1 hcm
      exact hel m s hs t ht
    refine enter2 Try.func64 rfl rfl rfl (Own.startAt w hg) ?_
    repeat' (first
      | (refine s_g ?_; first
      | (refine s_k 0 rfl ?_; refine s_val rfl rfl rfl (r_move rfl rfl) ?_)
      | (refine s_k 8 rfl ?_; first | (refine' s_val rfl rfl rfl (r_ldv rfl rfl ?qm ?qv) ?_; (case qm => (exact zMm)); (case qv => (exact zLe))) | (refine' s_val rfl rfl rfl (r_ldo rfl rfl ?qw (by simp) ?qv) ?_; (case qw => assumption); (case qv => (exact zLe))))
      | (refine s_k 1 rfl ?_; refine s_val rfl rfl rfl (r_assign rfl rfl) ?_)
      | (refine s_k 13 rfl ?_; first | refine s_val rfl rfl rfl (r_lss rfl rfl rfl) ?_ | refine s_val rfl rfl rfl (r_eql rfl rfl rfl) ?_ | refine s_val rfl rfl rfl (r_add rfl rfl rfl (wrap_in (by simp only [lo, hi]; omega))) ?_)
      | (refine s_k 35 rfl ?_; (refine s_call Try.func96 (by kernel_rfl) rfl rfl rfl rfl rfl rfl (fun w hL => hix k0 hm1 w hL) ?_))
      | (refine s_k 14 rfl ?_; refine s_val rfl rfl rfl (r_not rfl rfl) ?_)
      | (refine s_k 25 rfl ?_; first | refine s_val rfl rfl rfl (r_ixN tb rfl rfl rfl rfl (by omega)) ?_ | refine s_val rfl rfl rfl (r_ixA tb rfl rfl rfl rfl (by omega) (by omega)) ?_ | refine s_val rfl rfl rfl (r_ixO tb rfl rfl rfl rfl (by omega)) ?_)
      | (refine s_k 9 rfl ?_; (first | refine s_st1 tb rfl rfl rfl rfl rfl rfl rfl rfl ?_ | refine s_stA tb rfl rfl rfl rfl (by first | rfl | assumption | (apply Pv.size; assumption)) rfl rfl ?_); (first | refine' st0 ?qs ?_ | refine' st1 ?qs ?_ | refine' st2 ?qs ?_ | refine' st3 ?qs ?_ | refine' st4 ?qs ?_ | refine' st5 ?qs ?_ | refine' st6 ?qs ?_ | refine' st7 ?qs ?_ | refine' st8 ?qs ?_ | refine' st9 ?qs ?_ | refine' st10 ?qs ?_ | refine' st11 ?qs ?_); (case qs => (first | exact zSet)))
      | (refine s_k 36 rfl ?_; refine s_val rfl rfl rfl (r_len tb rfl rfl rfl) ?_)
      | refine s_nil ?_)
      | (refine c_g ?_; first | refine c_seq ?_ | refine c_region ?_ | (refine c_gc ?_; first | refine c_cond1 rfl zTr ?_ | refine c_cond0 rfl zTr ?_ | refine z_condd1 rfl ?_ | refine z_condd0 rfl ?_ | refine z_conddn1 rfl ?_ | refine z_conddn0 rfl ?_ | refine c_condd rfl (fun hc => ?_) (fun hc => ?_) | refine c_conddn rfl (fun hc => ?_) (fun hc => ?_) | refine c_condn rfl (fun hc => ?_) (fun hc => ?_) | refine c_cond rfl (fun hc => ?_) (fun hc => ?_)) | refine c_block ?_ | refine c_skip ?_ | refine c_exit ?_ | refine c_ret ?_)
      | (refine e_g ?_; first | refine e_then ?_ | refine e_blkn ?_ | refine e_thenx ?_ | refine e_thenr ?_ | refine e_blkr ?_ | refine e_blkx ?_ | refine e_blky rfl ?_))
    refine c_loop (ι := Nat × Array Value) (fun j => l.length - j.1) (fun j => k0 < j.1 ∧ j.1 ≤ l.length ∧ ((l.take j.1).filter fun s => !f s).length < j.1 ∧ j.2.size = cur.size ∧ Pt 3 j.2 (K.map Hd.cells) ((l.take j.1).filter fun s => !f s).length ∧ ∀ m s, j.1 ≤ m → l[m]? = some s → ∀ t, t < 3 → j.2[m * 3 + t]? = s.cells[t]?) (fun j => [(6, .int .i64 (j.1 : Int)), (5, .int .i64 (((l.take j.1).filter fun s => !f s).length : Int)), (0, .slice (some ⟨g, 0, none⟩) l.length cap), (1, .func (.func cf) fs.toArray caps.toArray)]) (fun j => [(g, 66, j.2)]) (k0 + 1, cur) ⟨by simp, by simp; omega, by simp only; rw [hi0]; omega, rfl, by simp only; rw [hi0]; exact hP0, fun m s _ hs => hel m s hs⟩ ?hs rfl ?_
    case hs => exact sub_cons rfl (sub_cons' rfl (by simp only; rw [hi0]) (by repeat' (first | exact sub_nil | refine sub_cons rfl ?_)))
    rintro ⟨j, c⟩ ⟨hkj, hjl, hij, hcs, hP, hT⟩
    simp only at hkj hjl hij hcs hP hT ⊢
    by_cases hlt : j < l.length
    · have hx : l[j]? = some l[j] := List.getElem?_eq_getElem hlt
      have hmem := List.getElem_mem hlt
      generalize l[j] = s at *
      have hsu := filt_succH (f := f) hx
      have hext := ext_elH (hT j s (Nat.le_refl _) hx 0 (by omega)) (hT j s (Nat.le_refl _) hx 1 (by omega)) (hT j s (Nat.le_refl _) hx 2 (by omega))
      have hilt : ((l.take j).filter fun s => !f s).length < l.length := by omega
      cases hfs : f s
      case true =>
        rw [hfs] at hsu
        simp only [if_true, Nat.add_zero] at hsu
        repeat' (first
          | (refine s_g ?_; first
      | (refine s_k 0 rfl ?_; refine s_val rfl rfl rfl (r_move rfl rfl) ?_)
      | (refine s_k 8 rfl ?_; first | refine s_val rfl rfl rfl (r_ldN tb rfl rfl m0 rfl hext.1 hext.2) ?_ | (refine' s_val rfl rfl rfl (r_ldv rfl rfl ?qm ?qv) ?_; (case qm => (exact zMm)); (case qv => (exact zLe))) | (refine' s_val rfl rfl rfl (r_ldo rfl rfl ?qw (by simp) ?qv) ?_; (case qw => assumption); (case qv => (exact zLe))))
      | (refine s_k 1 rfl ?_; refine s_val rfl rfl rfl (r_assign rfl rfl) ?_)
      | (refine s_k 13 rfl ?_; first | refine s_val rfl rfl rfl (r_lss rfl rfl rfl) ?_ | refine s_val rfl rfl rfl (r_eql rfl rfl rfl) ?_ | refine s_val rfl rfl rfl (r_add rfl rfl rfl (wrap_in (by simp only [lo, hi]; omega))) ?_)
      | (refine s_k 35 rfl ?_; refine s_callb hf hname hb rfl rfl rfl rfl rfl rfl (fun w hL => hc s hmem _ (BelowX.of hL)) ?_)
      | (refine s_k 14 rfl ?_; refine s_val rfl rfl rfl (r_not rfl rfl) ?_)
      | (refine s_k 25 rfl ?_; first | refine s_val rfl rfl rfl (r_ixO tb rfl rfl rfl rfl hlt) ?_ | refine s_val rfl rfl rfl (r_ixN tb rfl rfl rfl rfl (by omega)) ?_ | refine s_val rfl rfl rfl (r_ixA tb rfl rfl rfl rfl (by omega) (by omega)) ?_ | refine s_val rfl rfl rfl (r_ixO tb rfl rfl rfl rfl (by omega)) ?_)
      | (refine s_k 9 rfl ?_; (first | refine s_st1 tb rfl rfl rfl rfl rfl rfl rfl rfl ?_ | refine s_stA tb rfl rfl rfl rfl (by first | rfl | assumption | (apply Pv.size; assumption)) rfl rfl ?_); (first | refine' st0 ?qs ?_ | refine' st1 ?qs ?_ | refine' st2 ?qs ?_ | refine' st3 ?qs ?_ | refine' st4 ?qs ?_ | refine' st5 ?qs ?_ | refine' st6 ?qs ?_ | refine' st7 ?qs ?_ | refine' st8 ?qs ?_ | refine' st9 ?qs ?_ | refine' st10 ?qs ?_ | refine' st11 ?qs ?_); (case qs => (first | exact set_whole (vs := s.cells.toArray) rfl (by simp [Hd.cells, Value.oneCell']) | exact zSet)))
      | (refine s_k 3 rfl ?_; refine s_allocA (t := 66) rfl zImplHurdle rfl rfl rfl fun blk => ?_)
      | (refine s_k 36 rfl ?_; refine s_val rfl rfl rfl (r_len tb rfl rfl rfl) ?_)
      | refine s_nil ?_)
          | (refine c_g ?_; first | refine c_seq ?_ | refine c_region ?_ | (refine c_gc ?_; first | refine c_cond1 rfl zTr ?_ | refine c_cond0 rfl zTr ?_ | refine z_condd1 rfl ?_ | refine z_condd0 rfl ?_ | refine z_conddn1 rfl ?_ | refine z_conddn0 rfl ?_ | refine c_condd rfl (fun hc => ?_) (fun hc => ?_) | refine c_conddn rfl (fun hc => ?_) (fun hc => ?_) | refine c_condn rfl (fun hc => ?_) (fun hc => ?_) | refine c_cond rfl (fun hc => ?_) (fun hc => ?_)) | refine c_block ?_ | refine c_skip ?_ | refine c_exit ?_ | refine c_ret ?_)
          | (refine e_g ?_; first | refine e_then ?_ | refine e_blkn ?_ | refine e_thenx ?_ | refine e_thenr ?_ | refine e_blkr ?_ | refine e_blkx ?_ | refine e_blky rfl ?_)
          | (refine e_drop1 m0 (e_round (j + 1, c) (by simp; omega) ⟨by simp; omega, by simp; omega, by simp only; rw [hsu]; omega, hcs, by simp only; rw [hsu]; exact hP, fun m s hm => hT m s (by simp only at hm; omega)⟩ ?_ rfl); exact sub_cons rfl (sub_cons' rfl (by simp only; rw [hsu]) (by repeat' (first | exact sub_nil | refine sub_cons rfl ?_)))))
      case false =>
        rw [hfs] at hsu
        simp only [Bool.false_eq_true, if_false] at hsu
        have hka := kept_atH hx hfs
        rw [hKK] at hka
        generalize ((l.take j).filter fun s => !f s).length = i at *
        have hka' : (K.map Hd.cells)[i]? = some s.cells := by simp [hka]
        have hfit : i * 3 + 3 ≤ c.size := by omega
        repeat' (first
          | (refine s_g ?_; first
      | (refine s_k 0 rfl ?_; refine s_val rfl rfl rfl (r_move rfl rfl) ?_)
      | (refine s_k 8 rfl ?_; first | refine s_val rfl rfl rfl (r_ldN tb rfl rfl m0 rfl hext.1 hext.2) ?_ | (refine' s_val rfl rfl rfl (r_ldv rfl rfl ?qm ?qv) ?_; (case qm => (exact zMm)); (case qv => (exact zLe))) | (refine' s_val rfl rfl rfl (r_ldo rfl rfl ?qw (by simp) ?qv) ?_; (case qw => assumption); (case qv => (exact zLe))))
      | (refine s_k 1 rfl ?_; refine s_val rfl rfl rfl (r_assign rfl rfl) ?_)
      | (refine s_k 13 rfl ?_; first | refine s_val rfl rfl rfl (r_lss rfl rfl rfl) ?_ | refine s_val rfl rfl rfl (r_eql rfl rfl rfl) ?_ | refine s_val rfl rfl rfl (r_add rfl rfl rfl (wrap_in (by simp only [lo, hi]; omega))) ?_)
      | (refine s_k 35 rfl ?_; refine s_callb hf hname hb rfl rfl rfl rfl rfl rfl (fun w hL => hc s hmem _ (BelowX.of hL)) ?_)
      | (refine s_k 14 rfl ?_; refine s_val rfl rfl rfl (r_not rfl rfl) ?_)
      | (refine s_k 25 rfl ?_; first | refine s_val rfl rfl rfl (r_ixO tb rfl rfl rfl rfl hlt) ?_ | refine s_val rfl rfl rfl (r_ixO tb rfl rfl rfl rfl hilt) ?_ | refine s_val rfl rfl rfl (r_ixN tb rfl rfl rfl rfl (by omega)) ?_ | refine s_val rfl rfl rfl (r_ixA tb rfl rfl rfl rfl (by omega) (by omega)) ?_ | refine s_val rfl rfl rfl (r_ixO tb rfl rfl rfl rfl (by omega)) ?_)
      | (refine s_k 9 rfl ?_; (first | refine s_st1 tb rfl rfl rfl rfl rfl rfl rfl rfl ?_ | refine s_stA tb rfl rfl rfl rfl (by first | rfl | assumption | (apply Pv.size; assumption)) rfl rfl ?_); (first | refine' st0 ?qs ?_ | refine' st1 ?qs ?_ | refine' st2 ?qs ?_ | refine' st3 ?qs ?_ | refine' st4 ?qs ?_ | refine' st5 ?qs ?_ | refine' st6 ?qs ?_ | refine' st7 ?qs ?_ | refine' st8 ?qs ?_ | refine' st9 ?qs ?_ | refine' st10 ?qs ?_ | refine' st11 ?qs ?_); (case qs => (first | exact set_whole (vs := s.cells.toArray) rfl (by simp [Hd.cells, Value.oneCell']) | exact set_any (vs := s.cells.toArray) (by simp [Hd.cells]; omega) (by simp [Hd.cells, Value.oneCell']) | exact zSet)); (first | (refine absA1 (fun c2 => c2.size = cur.size ∧ Pt 3 c2 (K.map Hd.cells) (i + 1) ∧ ∀ m s, j + 1 ≤ m → l[m]? = some s → ∀ t, t < 3 → c2[m * 3 + t]? = s.cells[t]?) ⟨(splice_size _ _ _ (by simp [Hd.cells]; omega)).trans hcs, hP.put hka' rfl hfit, fun m s hm hs t ht => by rw [splice_get _ _ _ (by simp [Hd.cells]; omega), if_neg (by simp [Hd.cells]; omega)]; exact hT m s (by omega) hs t ht⟩ fun c2 hq2 => ?_) | skip))
      | (refine s_k 3 rfl ?_; refine s_allocA (t := 66) rfl zImplHurdle rfl rfl rfl fun blk => ?_)
      | (refine s_k 36 rfl ?_; refine s_val rfl rfl rfl (r_len tb rfl rfl rfl) ?_)
      | refine s_nil ?_)
          | (refine c_g ?_; first | refine c_seq ?_ | refine c_region ?_ | (refine c_gc ?_; first | refine c_cond1 rfl zTr ?_ | refine c_cond0 rfl zTr ?_ | refine z_condd1 rfl ?_ | refine z_condd0 rfl ?_ | refine z_conddn1 rfl ?_ | refine z_conddn0 rfl ?_ | refine c_condd rfl (fun hc => ?_) (fun hc => ?_) | refine c_conddn rfl (fun hc => ?_) (fun hc => ?_) | refine c_condn rfl (fun hc => ?_) (fun hc => ?_) | refine c_cond rfl (fun hc => ?_) (fun hc => ?_)) | refine c_block ?_ | refine c_skip ?_ | refine c_exit ?_ | refine c_ret ?_)
          | (refine e_g ?_; first | refine e_then ?_ | refine e_blkn ?_ | refine e_thenx ?_ | refine e_thenr ?_ | refine e_blkr ?_ | refine e_blkx ?_ | refine e_blky rfl ?_)
          | (refine e_drop1 m0 (e_round (j + 1, c2) (by simp; omega) ⟨by simp; omega, by simp; omega, by simp only; rw [hsu]; omega, hq2.1, by simp only; rw [hsu]; exact hq2.2.1, hq2.2.2⟩ ?_ rfl); exact sub_cons rfl (sub_cons' rfl (by simp only; rw [hsu]; simp) (by repeat' (first | exact sub_nil | refine sub_cons rfl ?_)))))
    · have hjl2 : j = l.length := by omega
      subst hjl2
      rw [List.take_length, hKK] at hP hij ⊢
      have hm0 : 0 < l.length - K.length := by omega
      have hfit : 0 + K.length * 3 + (l.length - K.length) * 3 ≤ c.size := by omega
      have hKl : K.length ≤ l.length := by omega
      have hKc : K.length < cap := by omega
      have hKc2 : K.length ≤ cap := by omega
      repeat' (first
        | (refine s_g ?_; first
      | (refine s_k 0 rfl ?_; refine s_val rfl rfl rfl (r_move rfl rfl) ?_)
      | (refine s_k 8 rfl ?_; first | (refine' s_val rfl rfl rfl (r_ldv rfl rfl ?qm ?qv) ?_; (case qm => (exact zMm)); (case qv => (exact zLe))) | (refine' s_val rfl rfl rfl (r_ldo rfl rfl ?qw (by simp) ?qv) ?_; (case qw => assumption); (case qv => (exact zLe))))
      | (refine s_k 1 rfl ?_; refine s_val rfl rfl rfl (r_assign rfl rfl) ?_)
      | (refine s_k 13 rfl ?_; first | refine s_val rfl rfl rfl (r_lss rfl rfl rfl) ?_ | refine s_val rfl rfl rfl (r_eql rfl rfl rfl) ?_ | refine s_val rfl rfl rfl (r_add rfl rfl rfl (wrap_in (by simp only [lo, hi]; omega))) ?_)
      | (refine s_k 14 rfl ?_; refine s_val rfl rfl rfl (r_not rfl rfl) ?_)
      | (refine s_k 25 rfl ?_; first | refine s_val rfl rfl rfl (r_ixN tb rfl rfl rfl rfl (by omega)) ?_ | refine s_val rfl rfl rfl (r_ixA tb rfl rfl rfl rfl (by omega) (by omega)) ?_ | refine s_val rfl rfl rfl (r_ixO tb rfl rfl rfl rfl (by omega)) ?_)
      | (refine s_k 9 rfl ?_; (first | refine s_st1 tb rfl rfl rfl rfl rfl rfl rfl rfl ?_ | refine s_stA tb rfl rfl rfl rfl (by first | rfl | assumption | (apply Pv.size; assumption)) rfl rfl ?_); (first | refine' st0 ?qs ?_ | refine' st1 ?qs ?_ | refine' st2 ?qs ?_ | refine' st3 ?qs ?_ | refine' st4 ?qs ?_ | refine' st5 ?qs ?_ | refine' st6 ?qs ?_ | refine' st7 ?qs ?_ | refine' st8 ?qs ?_ | refine' st9 ?qs ?_ | refine' st10 ?qs ?_ | refine' st11 ?qs ?_); (case qs => (first | exact zSet)))
      | (refine s_k 36 rfl ?_; first | refine s_clear0 rfl rfl uHurdleS iHurdle rfl hd_one hm0 hfit rfl rfl fun c2 hs2 hp2 => ?_ | refine s_val rfl rfl rfl (r_len tb rfl rfl rfl) ?_)
      | (refine s_k 22 rfl ?_; first | refine s_val rfl rfl rfl (r_slcL tb rfl rfl rfl rfl hKl hKc) ?_ | refine s_val rfl rfl rfl (r_slcH tb rfl rfl rfl rfl hKc2) ?_)
      | refine s_nil ?_)
        | (refine c_g ?_; first | refine c_seq ?_ | refine c_region ?_ | (refine c_gc ?_; first | refine c_cond1 rfl zTr ?_ | refine c_cond0 rfl zTr ?_ | refine z_condd1 rfl ?_ | refine z_condd0 rfl ?_ | refine z_conddn1 rfl ?_ | refine z_conddn0 rfl ?_ | refine c_condd rfl (fun hc => ?_) (fun hc => ?_) | refine c_conddn rfl (fun hc => ?_) (fun hc => ?_) | refine c_condn rfl (fun hc => ?_) (fun hc => ?_) | refine c_cond rfl (fun hc => ?_) (fun hc => ?_)) | refine c_block ?_ | refine c_skip ?_ | refine c_exit ?_ | refine c_ret ?_)
        | (refine e_g ?_; first | refine e_then ?_ | refine e_blkn ?_ | refine e_thenx ?_ | refine e_thenr ?_ | refine e_blkr ?_ | refine e_blkx ?_ | refine e_blky rfl ?_)
        | (refine e_ret1 (by simp) rfl (re_tmp rfl) fun w hL => ⟨rfl, _, ?_, Upd.of hL m0⟩))
      have hP2 : Pt 3 c2 (K.map Hd.cells) K.length := fun m d hm hd t ht => by
        rw [hp2 _ (by omega)]; exact hP m d hm hd t ht
      have h := Pt.ap (cap := cap) (by rw [List.length_map]; exact hP2) (lenHd K) (by omega) (by rw [List.length_map]; exact hKc2) hmx
      rw [List.length_map] at h; exact h
end Go.Proofs.Ytnafnhpajkhgkaa
