import Derived.Test.YtnfdefeafhepkaaQG11
import Derived.Test.YtnfdefeafhepkaaQG12
import Derived.Test.YtnfdefeafhepkaaQG14
import Derived.Test.YtnfdefeafhepkaaQG15
import Derived.Test.YtnfdefeafhepkaaQG16
import Derived.Test.YtnfdefeafhepkaaQG21
import Derived.Test.YtnfdefeafhepkaaQG24
/- DeleteFunc over hurdles, for any closure that only looks. No condition but a length of at most 2^20. -/
namespace Go.Proofs.Ytnfdefeafhepkaa
set_option linter.unusedVariables false
set_option linter.unusedSimpArgs false
open Go.RowKit Mem Wk
attribute [local irreducible] Calls Wk.S Wk.C Wk.E Wk.X Wk.T Calm.wpLex
theorem hd_one : ∀ u ∈ (Value.agg #[.int .i8 0, .int .i8 0, .bool false]).cells.toList, u.oneCell' = true := by simp [Value.cells, Value.oneCell']
/-- A closure over spots that only looks, and not into block g. -/
def LooksXH (w : World) (g : Nat) (cf : FuncId) (caps : List Value) (f : Hd → Bool) (l : List Hd) : Prop :=
  ∀ s ∈ l, ∀ w', BelowX g w w' → Calls Try.prog cf ([Value.agg s.cells.toArray] ++ caps).toArray w' fun e w'' => e = .returned (.bool (f s)) ∧ Below w'.heap.size w' w''
theorem kept_atH {f : Hd → Bool} {l : List Hd} {j : Nat} {s : Hd} (hs : l[j]? = some s) (hf : f s = false) : (l.filter fun s => !f s)[((l.take j).filter fun s => !f s).length]? = some s := by
  have e : l = l.take j ++ s :: l.drop (j + 1) := by
    have hlt := (List.getElem?_eq_some_iff.1 hs).1
    rw [← (List.getElem?_eq_some_iff.1 hs).2, ← List.drop_eq_getElem_cons hlt, List.take_append_drop]
  have h2 : (l.filter fun s => !f s) = ((l.take j).filter fun s => !f s) ++ s :: ((l.drop (j + 1)).filter fun s => !f s) := by
    have h3 := congrArg (List.filter fun s => !f s) e
    rw [h3, List.filter_append, List.filter_cons, hf]; rfl
  rw [h2, List.getElem?_append_right (Nat.le_refl _), Nat.sub_self]; rfl
theorem filt_succH {f : Hd → Bool} {l : List Hd} {j : Nat} {s : Hd} (hs : l[j]? = some s) : ((l.take (j + 1)).filter fun s => !f s).length = ((l.take j).filter fun s => !f s).length + if f s then 0 else 1 := by
  rw [List.take_add_one, hs, List.filter_append]
  cases hf : f s <;> simp [hf]
theorem ext_elH {c : Array Value} {i : Nat} {s : Hd} (h0 : c[i * 3 + 0]? = some (.int .i8 s.x)) (h1 : c[i * 3 + 1]? = some (.int .i8 s.y)) (h2 : c[i * 3 + 2]? = some (.bool s.s)) : 0 + i * 3 + 3 ≤ c.size ∧ c.extract (0 + i * 3) (0 + i * 3 + 3) = s.cells.toArray := by
  have l1 := (Array.getElem?_eq_some_iff.1 h2).1
  refine ⟨by omega, ?_⟩
  apply Array.ext_getElem?
  intro k
  rw [Array.getElem?_extract]
  by_cases hk : k < 3
  · rw [if_pos (by omega)]
    match k, hk with
    | 0, _ => rw [show 0 + i * 3 + 0 = i * 3 + 0 by omega, h0]; simp [Hd.cells]
    | 1, _ => rw [show 0 + i * 3 + 1 = i * 3 + 1 by omega, h1]; simp [Hd.cells]
    | 2, _ => rw [show 0 + i * 3 + 2 = i * 3 + 2 by omega, h2]; simp [Hd.cells]
  · rw [if_neg (by omega), Array.getElem?_eq_none (by simp [Hd.cells]; omega)]
set_option maxRecDepth 100000 in
set_option maxHeartbeats 1600000 in
theorem delH_any (l : List Hd) (cf : FuncId) (fn : Func) (caps : List Value) (f : Hd → Bool) (g n cap : Nat) (cur : Array Value) (w : World) (hA : Ap 3 n cap cur (flH l)) (hg : w.heap[g]? = some (.cells cur 139 (0, 0))) (hn : l.length ≤ 1048576) (hf : Try.prog.funcs[cf]? = some fn) (hname : (fn.name == "runtime.NumGoroutine") = false) (hb : fn.body.isSome = true) (hc : LooksXH w g cf caps f l) :
    Calls Try.prog 111 #[.slice (some ⟨g, 0, none⟩) n cap, .func (.func cf) #[] caps.toArray] w fun e w' => e = .returned (.slice (some ⟨g, 0, none⟩) (l.filter fun s => !f s).length cap) ∧ ∃ cs', Ap 3 (l.filter fun s => !f s).length cap cs' (flH (l.filter fun s => !f s)) ∧ Upd w w' g 139 cs' := by
  obtain rfl : n = l.length := by simpa using hA.count (lenHd l) (by omega)
  have hcap := hA.le
  have hmx := hA.max
  have hsz := hA.size
  have hlook : ∀ w', Kn [g] w w' [(g, 139, cur)] → Looks w' cf caps (fun c => f (hdOf c)) (l.map Hd.cells) := fun w' hL c hcm w'' hb' => by
    obtain ⟨s, hs, rfl⟩ := List.mem_map.1 hcm
    exact hc s hs w'' ((BelowX.of hL).tr hb')
  have hix : ∀ r : Int, ixF (fun c => f (hdOf c)) (l.map Hd.cells) = r → ∀ w', Kn [g] w w' [(g, 139, cur)] → Calls Try.prog 136 #[.slice (some ⟨g, 0, none⟩) l.length cap, .func (.func cf) #[] caps.toArray] w' fun e w'' => e = .returned (.int .i64 r) ∧ Below w'.heap.size w' w'' := fun r hr w' hL => by
    have h := ixH_any (l.map Hd.cells) (some ⟨g, 0, none⟩) cap cf fn caps (fun c => f (hdOf c)) w' (hA.slH (hL.at_ m0)).2 (by rw [List.length_map]; unfold maxLen; omega) hf hname hb (hlook w' hL)
    rw [hr, List.length_map] at h; exact h
  by_cases hex : ∃ s ∈ l, f s = true
  case neg =>
    have hall : ∀ s ∈ l, f s = false := fun s hs => by
      cases h : f s
      · rfl
      · exact absurd ⟨s, hs, h⟩ hex
    have hfl : (l.filter fun s => !f s) = l := List.filter_eq_self.2 fun s hs => by rw [hall s hs]; rfl
    have hm1 : ixF (fun c => f (hdOf c)) (l.map Hd.cells) = -1 := ixF_none fun c hcm => by
      obtain ⟨s, hs, rfl⟩ := List.mem_map.1 hcm
      exact hall s hs
    rw [hfl]
    refine enter2 Try.func111 rfl rfl rfl (Own.startAt w hg) ?_
    repeat' (first
      | (refine s_g ?_; first
      | (refine s_k 0 rfl ?_; refine s_val rfl rfl rfl (r_move rfl rfl) ?_)
      | (refine s_k 8 rfl ?_; first | (refine' s_val rfl rfl rfl (r_ldv rfl rfl ?qm ?qv) ?_; (case qm => (exact zMm)); (case qv => (exact zLe))) | (refine' s_val rfl rfl rfl (r_ldo rfl rfl ?qw (by simp) ?qv) ?_; (case qw => assumption); (case qv => (exact zLe))))
      | (refine s_k 1 rfl ?_; refine s_val rfl rfl rfl (r_assign rfl rfl) ?_)
      | (refine s_k 13 rfl ?_; first | refine s_val rfl rfl rfl (r_lss rfl rfl rfl) ?_ | refine s_val rfl rfl rfl (r_eql rfl rfl rfl) ?_ | refine s_val rfl rfl rfl (r_add rfl rfl rfl (wrap_in (by simp only [lo, hi]; omega))) ?_)
      | (refine s_k 35 rfl ?_; (refine s_call Try.func136 (by kernel_rfl) rfl rfl rfl rfl rfl rfl (fun w hL => hix (-1) hm1 w hL) ?_))
      | (refine s_k 14 rfl ?_; refine s_val rfl rfl rfl (r_not rfl rfl) ?_)
      | (refine s_k 25 rfl ?_; first | refine s_val rfl rfl rfl (r_ixN tb rfl rfl rfl rfl (by omega)) ?_ | refine s_val rfl rfl rfl (r_ixA tb rfl rfl rfl rfl (by omega) (by omega)) ?_ | refine s_val rfl rfl rfl (r_ixO tb rfl rfl rfl rfl (by omega)) ?_)
      | (refine s_k 9 rfl ?_; (first | refine s_st1 tb rfl rfl rfl rfl rfl rfl rfl rfl ?_ | refine s_stA tb rfl rfl rfl rfl (by first | rfl | assumption | (apply Pv.size; assumption)) rfl rfl ?_); (first | refine' st0 ?qs ?_ | refine' st1 ?qs ?_ | refine' st2 ?qs ?_ | refine' st3 ?qs ?_ | refine' st4 ?qs ?_ | refine' st5 ?qs ?_ | refine' st6 ?qs ?_ | refine' st7 ?qs ?_ | refine' st8 ?qs ?_ | refine' st9 ?qs ?_ | refine' st10 ?qs ?_ | refine' st11 ?qs ?_); (case qs => (first | exact zSet)))
      | (refine s_k 36 rfl ?_; refine s_val rfl rfl rfl (r_len tb rfl rfl rfl) ?_)
      | refine s_nil ?_)
      | (refine c_g ?_; first | refine c_seq ?_ | refine c_region ?_ | (refine c_gc ?_; first | refine c_cond1 rfl zTr ?_ | refine c_cond0 rfl zTr ?_ | refine z_condd1 rfl ?_ | refine z_condd0 rfl ?_ | refine z_conddn1 rfl ?_ | refine z_conddn0 rfl ?_ | refine c_condd rfl (fun hc => ?_) (fun hc => ?_) | refine c_conddn rfl (fun hc => ?_) (fun hc => ?_) | refine c_condn rfl (fun hc => ?_) (fun hc => ?_) | refine c_cond rfl (fun hc => ?_) (fun hc => ?_)) | refine c_block ?_ | refine c_skip ?_ | refine c_exit ?_ | refine c_ret ?_)
      | (refine e_g ?_; first | refine e_then ?_ | refine e_blkn ?_ | refine e_thenx ?_ | refine e_thenr ?_ | refine e_blkr ?_ | refine e_blkx ?_ | refine e_blky rfl ?_)
      | (refine e_ret1 (by simp) rfl (re_tmp rfl) fun w hL => ⟨rfl, _, hA, Upd.of hL m0⟩))
  case pos =>
    obtain ⟨k0, s0, hk0, hfs0, hmin⟩ : ∃ k0 s0, l[k0]? = some s0 ∧ f s0 = true ∧ ∀ j s, j < k0 → l[j]? = some s → f s = false := by
      have hlt : l.findIdx f < l.length := List.findIdx_lt_length.2 hex
      refine ⟨l.findIdx f, l[l.findIdx f], List.getElem?_eq_getElem hlt, List.findIdx_getElem, fun j s hj hs => ?_⟩
      have h1 := List.not_of_lt_findIdx hj
      have h2 := (List.getElem?_eq_some_iff.1 hs).2
      rw [h2] at h1
      simpa using h1
    have hk0l : k0 < l.length := (List.getElem?_eq_some_iff.1 hk0).1
    have hm1 : ixF (fun c => f (hdOf c)) (l.map Hd.cells) = (k0 : Int) := ixF_some (a := s0.cells) (by simp [hk0]) hfs0 fun j c hj hcj => by
      rw [List.getElem?_map] at hcj
      obtain ⟨s, hs, rfl⟩ := Option.map_eq_some_iff.1 hcj
      exact hmin j s hj hs
    have hpre : (l.take k0).filter (fun s => !f s) = l.take k0 := List.filter_eq_self.2 fun s hs => by
      obtain ⟨j, hj⟩ := List.mem_iff_getElem?.1 hs
      rw [List.getElem?_take] at hj
      split at hj
      · rename_i hlt
        rw [hmin j s hlt hj]; rfl
      · cases hj
    have hi0 : ((l.take (k0 + 1)).filter fun s => !f s).length = k0 := by
      rw [filt_succH hk0, hpre, hfs0]; simp; omega
    have hK : (l.filter fun s => !f s) = l.take k0 ++ ((l.drop k0).filter fun s => !f s) := by
      conv => lhs; rw [← List.take_append_drop k0 l]
      rw [List.filter_append, hpre]
    have hel : ∀ m s, l[m]? = some s → ∀ t, t < 3 → cur[m * 3 + t]? = s.cells[t]? := fun m s hs t ht => hA.elem (lenHd l) (by simp [hs]) t ht
    generalize hKK : (l.filter fun s => !f s) = K at *
    have hP0 : Pt 3 cur (K.map Hd.cells) k0 := fun m c hm hcm t ht => by
      rw [List.getElem?_map, hK, List.getElem?_append_left (by simp; omega), List.getElem?_take, if_pos hm] at hcm
      obtain ⟨s, hs, rfl⟩ := Option.map_eq_some_iff.1 hcm
      exact hel m s hs t ht
    refine enter2 Try.func111 rfl rfl rfl (Own.startAt w hg) ?_
    repeat' (first
      | (refine s_g ?_; first
      | (refine s_k 0 rfl ?_; refine s_val rfl rfl rfl (r_move rfl rfl) ?_)
      | (refine s_k 8 rfl ?_; first | (refine' s_val rfl rfl rfl (r_ldv rfl rfl ?qm ?qv) ?_; (case qm => (exact zMm)); (case qv => (exact zLe))) | (refine' s_val rfl rfl rfl (r_ldo rfl rfl ?qw (by simp) ?qv) ?_; (case qw => assumption); (case qv => (exact zLe))))
      | (refine s_k 1 rfl ?_; refine s_val rfl rfl rfl (r_assign rfl rfl) ?_)
      | (refine s_k 13 rfl ?_; first | refine s_val rfl rfl rfl (r_lss rfl rfl rfl) ?_ | refine s_val rfl rfl rfl (r_eql rfl rfl rfl) ?_ | refine s_val rfl rfl rfl (r_add rfl rfl rfl (wrap_in (by simp only [lo, hi]; omega))) ?_)
      | (refine s_k 35 rfl ?_; (refine s_call Try.func136 (by kernel_rfl) rfl rfl rfl rfl rfl rfl (fun w hL => hix k0 hm1 w hL) ?_))
      | (refine s_k 14 rfl ?_; refine s_val rfl rfl rfl (r_not rfl rfl) ?_)
      | (refine s_k 25 rfl ?_; first | refine s_val rfl rfl rfl (r_ixN tb rfl rfl rfl rfl (by omega)) ?_ | refine s_val rfl rfl rfl (r_ixA tb rfl rfl rfl rfl (by omega) (by omega)) ?_ | refine s_val rfl rfl rfl (r_ixO tb rfl rfl rfl rfl (by omega)) ?_)
      | (refine s_k 9 rfl ?_; (first | refine s_st1 tb rfl rfl rfl rfl rfl rfl rfl rfl ?_ | refine s_stA tb rfl rfl rfl rfl (by first | rfl | assumption | (apply Pv.size; assumption)) rfl rfl ?_); (first | refine' st0 ?qs ?_ | refine' st1 ?qs ?_ | refine' st2 ?qs ?_ | refine' st3 ?qs ?_ | refine' st4 ?qs ?_ | refine' st5 ?qs ?_ | refine' st6 ?qs ?_ | refine' st7 ?qs ?_ | refine' st8 ?qs ?_ | refine' st9 ?qs ?_ | refine' st10 ?qs ?_ | refine' st11 ?qs ?_); (case qs => (first | exact zSet)))
      | (refine s_k 36 rfl ?_; refine s_val rfl rfl rfl (r_len tb rfl rfl rfl) ?_)
      | refine s_nil ?_)
      | (refine c_g ?_; first | refine c_seq ?_ | refine c_region ?_ | (refine c_gc ?_; first | refine c_cond1 rfl zTr ?_ | refine c_cond0 rfl zTr ?_ | refine z_condd1 rfl ?_ | refine z_condd0 rfl ?_ | refine z_conddn1 rfl ?_ | refine z_conddn0 rfl ?_ | refine c_condd rfl (fun hc => ?_) (fun hc => ?_) | refine c_conddn rfl (fun hc => ?_) (fun hc => ?_) | refine c_condn rfl (fun hc => ?_) (fun hc => ?_) | refine c_cond rfl (fun hc => ?_) (fun hc => ?_)) | refine c_block ?_ | refine c_skip ?_ | refine c_exit ?_ | refine c_ret ?_)
      | (refine e_g ?_; first | refine e_then ?_ | refine e_blkn ?_ | refine e_thenx ?_ | refine e_thenr ?_ | refine e_blkr ?_ | refine e_blkx ?_ | refine e_blky rfl ?_))
    refine c_loop (ι := Nat × Array Value) (fun j => l.length - j.1) (fun j => k0 < j.1 ∧ j.1 ≤ l.length ∧ ((l.take j.1).filter fun s => !f s).length < j.1 ∧ j.2.size = cur.size ∧ Pt 3 j.2 (K.map Hd.cells) ((l.take j.1).filter fun s => !f s).length ∧ ∀ m s, j.1 ≤ m → l[m]? = some s → ∀ t, t < 3 → j.2[m * 3 + t]? = s.cells[t]?) (fun j => [(6, .int .i64 (j.1 : Int)), (5, .int .i64 (((l.take j.1).filter fun s => !f s).length : Int)), (0, .slice (some ⟨g, 0, none⟩) l.length cap), (1, .func (.func cf) #[] caps.toArray)]) (fun j => [(g, 139, j.2)]) (k0 + 1, cur) ⟨by simp, by simp; omega, by simp only; rw [hi0]; omega, rfl, by simp only; rw [hi0]; exact hP0, fun m s _ hs => hel m s hs⟩ ?hs rfl ?_
    case hs => exact sub_cons rfl (sub_cons' rfl (by simp only; rw [hi0]) (by repeat' (first | exact sub_nil | refine sub_cons rfl ?_)))
    rintro ⟨j, c⟩ ⟨hkj, hjl, hij, hcs, hP, hT⟩
    simp only at hkj hjl hij hcs hP hT ⊢
    by_cases hlt : j < l.length
    · have hx : l[j]? = some l[j] := List.getElem?_eq_getElem hlt
      have hmem := List.getElem_mem hlt
      generalize l[j] = s at *
      have hsu := filt_succH (f := f) hx
      have hext := ext_elH (hT j s (Nat.le_refl _) hx 0 (by omega)) (hT j s (Nat.le_refl _) hx 1 (by omega)) (hT j s (Nat.le_refl _) hx 2 (by omega))
      have hilt : ((l.take j).filter fun s => !f s).length < l.length := by omega
      cases hfs : f s
      case true =>
        rw [hfs] at hsu
        simp only [if_true, Nat.add_zero] at hsu
        repeat' (first
          | (refine s_g ?_; first
      | (refine s_k 0 rfl ?_; refine s_val rfl rfl rfl (r_move rfl rfl) ?_)
      | (refine s_k 8 rfl ?_; first | refine s_val rfl rfl rfl (r_ldN tb rfl rfl m0 rfl hext.1 hext.2) ?_ | (refine' s_val rfl rfl rfl (r_ldv rfl rfl ?qm ?qv) ?_; (case qm => (exact zMm)); (case qv => (exact zLe))) | (refine' s_val rfl rfl rfl (r_ldo rfl rfl ?qw (by simp) ?qv) ?_; (case qw => assumption); (case qv => (exact zLe))))
      | (refine s_k 1 rfl ?_; refine s_val rfl rfl rfl (r_assign rfl rfl) ?_)
      | (refine s_k 13 rfl ?_; first | refine s_val rfl rfl rfl (r_lss rfl rfl rfl) ?_ | refine s_val rfl rfl rfl (r_eql rfl rfl rfl) ?_ | refine s_val rfl rfl rfl (r_add rfl rfl rfl (wrap_in (by simp only [lo, hi]; omega))) ?_)
      | (refine s_k 35 rfl ?_; refine s_callc hf hname hb rfl rfl rfl rfl rfl rfl (fun w hL => hc s hmem _ (BelowX.of hL)) ?_)
      | (refine s_k 14 rfl ?_; refine s_val rfl rfl rfl (r_not rfl rfl) ?_)
      | (refine s_k 25 rfl ?_; first | refine s_val rfl rfl rfl (r_ixO tb rfl rfl rfl rfl hlt) ?_ | refine s_val rfl rfl rfl (r_ixN tb rfl rfl rfl rfl (by omega)) ?_ | refine s_val rfl rfl rfl (r_ixA tb rfl rfl rfl rfl (by omega) (by omega)) ?_ | refine s_val rfl rfl rfl (r_ixO tb rfl rfl rfl rfl (by omega)) ?_)
      | (refine s_k 9 rfl ?_; (first | refine s_st1 tb rfl rfl rfl rfl rfl rfl rfl rfl ?_ | refine s_stA tb rfl rfl rfl rfl (by first | rfl | assumption | (apply Pv.size; assumption)) rfl rfl ?_); (first | refine' st0 ?qs ?_ | refine' st1 ?qs ?_ | refine' st2 ?qs ?_ | refine' st3 ?qs ?_ | refine' st4 ?qs ?_ | refine' st5 ?qs ?_ | refine' st6 ?qs ?_ | refine' st7 ?qs ?_ | refine' st8 ?qs ?_ | refine' st9 ?qs ?_ | refine' st10 ?qs ?_ | refine' st11 ?qs ?_); (case qs => (first | exact set_whole (vs := s.cells.toArray) rfl (by simp [Hd.cells, Value.oneCell']) | exact zSet)))
      | (refine s_k 3 rfl ?_; refine s_allocA (t := 139) rfl zImplHurdle rfl rfl rfl fun blk => ?_)
      | (refine s_k 36 rfl ?_; refine s_val rfl rfl rfl (r_len tb rfl rfl rfl) ?_)
      | refine s_nil ?_)
          | (refine c_g ?_; first | refine c_seq ?_ | refine c_region ?_ | (refine c_gc ?_; first | refine c_cond1 rfl zTr ?_ | refine c_cond0 rfl zTr ?_ | refine z_condd1 rfl ?_ | refine z_condd0 rfl ?_ | refine z_conddn1 rfl ?_ | refine z_conddn0 rfl ?_ | refine c_condd rfl (fun hc => ?_) (fun hc => ?_) | refine c_conddn rfl (fun hc => ?_) (fun hc => ?_) | refine c_condn rfl (fun hc => ?_) (fun hc => ?_) | refine c_cond rfl (fun hc => ?_) (fun hc => ?_)) | refine c_block ?_ | refine c_skip ?_ | refine c_exit ?_ | refine c_ret ?_)
          | (refine e_g ?_; first | refine e_then ?_ | refine e_blkn ?_ | refine e_thenx ?_ | refine e_thenr ?_ | refine e_blkr ?_ | refine e_blkx ?_ | refine e_blky rfl ?_)
          | (refine e_drop1 m0 (e_round (j + 1, c) (by simp; omega) ⟨by simp; omega, by simp; omega, by simp only; rw [hsu]; omega, hcs, by simp only; rw [hsu]; exact hP, fun m s hm => hT m s (by simp only at hm; omega)⟩ ?_ rfl); exact sub_cons rfl (sub_cons' rfl (by simp only; rw [hsu]) (by repeat' (first | exact sub_nil | refine sub_cons rfl ?_)))))
      case false =>
        rw [hfs] at hsu
        simp only [Bool.false_eq_true, if_false] at hsu
        have hka := kept_atH hx hfs
        rw [hKK] at hka
        generalize ((l.take j).filter fun s => !f s).length = i at *
        have hka' : (K.map Hd.cells)[i]? = some s.cells := by simp [hka]
        have hfit : i * 3 + 3 ≤ c.size := by omega
        repeat' (first
          | (refine s_g ?_; first
      | (refine s_k 0 rfl ?_; refine s_val rfl rfl rfl (r_move rfl rfl) ?_)
      | (refine s_k 8 rfl ?_; first | refine s_val rfl rfl rfl (r_ldN tb rfl rfl m0 rfl hext.1 hext.2) ?_ | (refine' s_val rfl rfl rfl (r_ldv rfl rfl ?qm ?qv) ?_; (case qm => (exact zMm)); (case qv => (exact zLe))) | (refine' s_val rfl rfl rfl (r_ldo rfl rfl ?qw (by simp) ?qv) ?_; (case qw => assumption); (case qv => (exact zLe))))
      | (refine s_k 1 rfl ?_; refine s_val rfl rfl rfl (r_assign rfl rfl) ?_)
      | (refine s_k 13 rfl ?_; first | refine s_val rfl rfl rfl (r_lss rfl rfl rfl) ?_ | refine s_val rfl rfl rfl (r_eql rfl rfl rfl) ?_ | refine s_val rfl rfl rfl (r_add rfl rfl rfl (wrap_in (by simp only [lo, hi]; omega))) ?_)
      | (refine s_k 35 rfl ?_; refine s_callc hf hname hb rfl rfl rfl rfl rfl rfl (fun w hL => hc s hmem _ (BelowX.of hL)) ?_)
      | (refine s_k 14 rfl ?_; refine s_val rfl rfl rfl (r_not rfl rfl) ?_)
      | (refine s_k 25 rfl ?_; first | refine s_val rfl rfl rfl (r_ixO tb rfl rfl rfl rfl hlt) ?_ | refine s_val rfl rfl rfl (r_ixO tb rfl rfl rfl rfl hilt) ?_ | refine s_val rfl rfl rfl (r_ixN tb rfl rfl rfl rfl (by omega)) ?_ | refine s_val rfl rfl rfl (r_ixA tb rfl rfl rfl rfl (by omega) (by omega)) ?_ | refine s_val rfl rfl rfl (r_ixO tb rfl rfl rfl rfl (by omega)) ?_)
      | (refine s_k 9 rfl ?_; (first | refine s_st1 tb rfl rfl rfl rfl rfl rfl rfl rfl ?_ | refine s_stA tb rfl rfl rfl rfl (by first | rfl | assumption | (apply Pv.size; assumption)) rfl rfl ?_); (first | refine' st0 ?qs ?_ | refine' st1 ?qs ?_ | refine' st2 ?qs ?_ | refine' st3 ?qs ?_ | refine' st4 ?qs ?_ | refine' st5 ?qs ?_ | refine' st6 ?qs ?_ | refine' st7 ?qs ?_ | refine' st8 ?qs ?_ | refine' st9 ?qs ?_ | refine' st10 ?qs ?_ | refine' st11 ?qs ?_); (case qs => (first | exact set_whole (vs := s.cells.toArray) rfl (by simp [Hd.cells, Value.oneCell']) | exact set_any (vs := s.cells.toArray) (by simp [Hd.cells]; omega) (by simp [Hd.cells, Value.oneCell']) | exact zSet)); (first | (refine absA1 (fun c2 => c2.size = cur.size ∧ Pt 3 c2 (K.map Hd.cells) (i + 1) ∧ ∀ m s, j + 1 ≤ m → l[m]? = some s → ∀ t, t < 3 → c2[m * 3 + t]? = s.cells[t]?) ⟨(splice_size _ _ _ (by simp [Hd.cells]; omega)).trans hcs, hP.put hka' rfl hfit, fun m s hm hs t ht => by rw [splice_get _ _ _ (by simp [Hd.cells]; omega), if_neg (by simp [Hd.cells]; omega)]; exact hT m s (by omega) hs t ht⟩ fun c2 hq2 => ?_) | skip))
      | (refine s_k 3 rfl ?_; refine s_allocA (t := 139) rfl zImplHurdle rfl rfl rfl fun blk => ?_)
      | (refine s_k 36 rfl ?_; refine s_val rfl rfl rfl (r_len tb rfl rfl rfl) ?_)
      | refine s_nil ?_)
          | (refine c_g ?_; first | refine c_seq ?_ | refine c_region ?_ | (refine c_gc ?_; first | refine c_cond1 rfl zTr ?_ | refine c_cond0 rfl zTr ?_ | refine z_condd1 rfl ?_ | refine z_condd0 rfl ?_ | refine z_conddn1 rfl ?_ | refine z_conddn0 rfl ?_ | refine c_condd rfl (fun hc => ?_) (fun hc => ?_) | refine c_conddn rfl (fun hc => ?_) (fun hc => ?_) | refine c_condn rfl (fun hc => ?_) (fun hc => ?_) | refine c_cond rfl (fun hc => ?_) (fun hc => ?_)) | refine c_block ?_ | refine c_skip ?_ | refine c_exit ?_ | refine c_ret ?_)
          | (refine e_g ?_; first | refine e_then ?_ | refine e_blkn ?_ | refine e_thenx ?_ | refine e_thenr ?_ | refine e_blkr ?_ | refine e_blkx ?_ | refine e_blky rfl ?_)
          | (refine e_drop1 m0 (e_round (j + 1, c2) (by simp; omega) ⟨by simp; omega, by simp; omega, by simp only; rw [hsu]; omega, hq2.1, by simp only; rw [hsu]; exact hq2.2.1, hq2.2.2⟩ ?_ rfl); exact sub_cons rfl (sub_cons' rfl (by simp only; rw [hsu]; simp) (by repeat' (first | exact sub_nil | refine sub_cons rfl ?_)))))
    · have hjl2 : j = l.length := by omega
      subst hjl2
      rw [List.take_length, hKK] at hP hij ⊢
      have hm0 : 0 < l.length - K.length := by omega
      have hfit : 0 + K.length * 3 + (l.length - K.length) * 3 ≤ c.size := by omega
      have hKl : K.length ≤ l.length := by omega
      have hKc : K.length < cap := by omega
      have hKc2 : K.length ≤ cap := by omega
      repeat' (first
        | (refine s_g ?_; first
      | (refine s_k 0 rfl ?_; refine s_val rfl rfl rfl (r_move rfl rfl) ?_)
      | (refine s_k 8 rfl ?_; first | (refine' s_val rfl rfl rfl (r_ldv rfl rfl ?qm ?qv) ?_; (case qm => (exact zMm)); (case qv => (exact zLe))) | (refine' s_val rfl rfl rfl (r_ldo rfl rfl ?qw (by simp) ?qv) ?_; (case qw => assumption); (case qv => (exact zLe))))
      | (refine s_k 1 rfl ?_; refine s_val rfl rfl rfl (r_assign rfl rfl) ?_)
      | (refine s_k 13 rfl ?_; first | refine s_val rfl rfl rfl (r_lss rfl rfl rfl) ?_ | refine s_val rfl rfl rfl (r_eql rfl rfl rfl) ?_ | refine s_val rfl rfl rfl (r_add rfl rfl rfl (wrap_in (by simp only [lo, hi]; omega))) ?_)
      | (refine s_k 14 rfl ?_; refine s_val rfl rfl rfl (r_not rfl rfl) ?_)
      | (refine s_k 25 rfl ?_; first | refine s_val rfl rfl rfl (r_ixN tb rfl rfl rfl rfl (by omega)) ?_ | refine s_val rfl rfl rfl (r_ixA tb rfl rfl rfl rfl (by omega) (by omega)) ?_ | refine s_val rfl rfl rfl (r_ixO tb rfl rfl rfl rfl (by omega)) ?_)
      | (refine s_k 9 rfl ?_; (first | refine s_st1 tb rfl rfl rfl rfl rfl rfl rfl rfl ?_ | refine s_stA tb rfl rfl rfl rfl (by first | rfl | assumption | (apply Pv.size; assumption)) rfl rfl ?_); (first | refine' st0 ?qs ?_ | refine' st1 ?qs ?_ | refine' st2 ?qs ?_ | refine' st3 ?qs ?_ | refine' st4 ?qs ?_ | refine' st5 ?qs ?_ | refine' st6 ?qs ?_ | refine' st7 ?qs ?_ | refine' st8 ?qs ?_ | refine' st9 ?qs ?_ | refine' st10 ?qs ?_ | refine' st11 ?qs ?_); (case qs => (first | exact zSet)))
      | (refine s_k 36 rfl ?_; first | refine s_clear0 rfl rfl uHurdleS iHurdle rfl hd_one hm0 hfit rfl rfl fun c2 hs2 hp2 => ?_ | refine s_val rfl rfl rfl (r_len tb rfl rfl rfl) ?_)
      | (refine s_k 22 rfl ?_; first | refine s_val rfl rfl rfl (r_slcL tb rfl rfl rfl rfl hKl hKc) ?_ | refine s_val rfl rfl rfl (r_slcH tb rfl rfl rfl rfl hKc2) ?_)
      | refine s_nil ?_)
        | (refine c_g ?_; first | refine c_seq ?_ | refine c_region ?_ | (refine c_gc ?_; first | refine c_cond1 rfl zTr ?_ | refine c_cond0 rfl zTr ?_ | refine z_condd1 rfl ?_ | refine z_condd0 rfl ?_ | refine z_conddn1 rfl ?_ | refine z_conddn0 rfl ?_ | refine c_condd rfl (fun hc => ?_) (fun hc => ?_) | refine c_conddn rfl (fun hc => ?_) (fun hc => ?_) | refine c_condn rfl (fun hc => ?_) (fun hc => ?_) | refine c_cond rfl (fun hc => ?_) (fun hc => ?_)) | refine c_block ?_ | refine c_skip ?_ | refine c_exit ?_ | refine c_ret ?_)
        | (refine e_g ?_; first | refine e_then ?_ | refine e_blkn ?_ | refine e_thenx ?_ | refine e_thenr ?_ | refine e_blkr ?_ | refine e_blkx ?_ | refine e_blky rfl ?_)
        | (refine e_ret1 (by simp) rfl (re_tmp rfl) fun w hL => ⟨rfl, _, ?_, Upd.of hL m0⟩))
      have hP2 : Pt 3 c2 (K.map Hd.cells) K.length := fun m d hm hd t ht => by
        rw [hp2 _ (by omega)]; exact hP m d hm hd t ht
      have h := Pt.ap (cap := cap) (by rw [List.length_map]; exact hP2) (lenHd K) (by omega) (by rw [List.length_map]; exact hKc2) hmx
      rw [List.length_map] at h; exact h
end Go.Proofs.Ytnfdefeafhepkaa
/- slices.Concat of lists of cells; append of nothing. No condition but a length of at most 2^20. -/
namespace Go.Proofs.Ytnfdefeafhepkaa.Wk
set_option linter.unusedVariables false
set_option linter.unusedSimpArgs false
open Go Go.RowKit Mem
variable {P : Program} {n : Nat} {O : List Nat} {w0 : World} {l : List (Nat × Value)} {L : List (Nat × TypeId × Array Value)} {Q : Exit → Act → World → Prop} {ops : Array Oper} {o : Oper} {rest : List Oper} {d : Nat} {x y : Operand}
end Go.Proofs.Ytnfdefeafhepkaa.Wk
namespace Go.Proofs.Ytnfdefeafhepkaa
set_option linter.unusedVariables false
set_option linter.unusedSimpArgs false
open Go.RowKit Mem Wk
attribute [local irreducible] Calls Wk.S Wk.C Wk.E Wk.X Wk.T Wk.Y Wk.anV Wk.orV Wk.andV Wk.shlV Wk.shrV Calm.wpLex CalmB.wpLex bfsN
/-- values in the cells of a slice -/
theorem apV {V : List Value} {n cap : Nat} {cur : Array Value} (h : Ap 1 n cap cur V) : n = V.length ∧ ∀ (j : Nat) v, V[j]? = some v → cur[0 + j * 1]? = some v := by
  have h1 := h.len
  rw [Nat.mul_one] at h1
  refine ⟨h1.symm, fun j v hv => ?_⟩
  have h2 := h.take
  rw [Nat.mul_one] at h2
  have hj := (List.getElem?_eq_some_iff.1 hv).1
  rw [← h2, List.getElem?_take, if_pos (by omega), Array.getElem?_toList] at hv
  rw [Nat.zero_add, Nat.mul_one]; exact hv
/-- lists of cells whose slices lie in a block -/
structure SSs (w : World) (S : List (List Sp)) (V : List Value) (cur : Array Value) : Prop where
  len : V.length = S.length
  at_ : ∀ (j : Nat) v, V[j]? = some v → cur[0 + j * 1]? = some v
  sl : ∀ (j : Nat) s v, S[j]? = some s → V[j]? = some v → Sl w 2 v (s.map Sp.cells)
theorem SSs.get {w : World} {S : List (List Sp)} {V : List Value} {cur : Array Value} (h : SSs w S V cur) {j : Nat} {s : List Sp} (hs : S[j]? = some s) : ∃ A cap, cur[0 + j * 1]? = some (.slice A s.length cap) ∧ SlA [] w 2 A (s.map Sp.cells) := by
  have hj := (List.getElem?_eq_some_iff.1 hs).1
  have hv : V[j]? = some (V[j]'(by rw [h.len]; exact hj)) := List.getElem?_eq_getElem _
  obtain ⟨A, cap, e, _, _, hS⟩ := (h.sl j s _ hs hv).open
  rw [List.length_map] at e
  rw [e] at hv
  exact ⟨A, cap, h.at_ j _ hv, hS⟩
theorem SSs.below {w w' : World} {S : List (List Sp)} {V : List Value} {cur : Array Value} (h : SSs w S V cur) (hb : Below w.heap.size w w') : SSs w' S V cur := ⟨h.len, h.at_, fun j s v hs hv => (h.sl j s v hs hv).below hb⟩
theorem SSs.items {w : World} {S : List (List Sp)} {items : List (Nat × Nat × Array Value)} {cap : Nat} {cur : Array Value} (hA : Ap 1 S.length cap cur (itV S items)) (hI : ItOk S items) (hin : ∀ i ∈ items, w.heap[i.1]? = some (.cells i.2.2 66 (0, 0))) : SSs w S (itV S items) cur := by
  refine ⟨itV_len hI.len, (apV hA).2, fun j s v hs hv => ?_⟩
  have hj := (List.getElem?_eq_some_iff.1 hs).1
  have hi : items[j]? = some (items[j]'(by rw [hI.len]; exact hj)) := List.getElem?_eq_getElem _
  unfold itV at hv
  rw [List.getElem?_zipWith, hs, hi] at hv
  injection hv with hv
  subst hv
  exact (hI.ap j s _ hs hi).toSl (lenSp s) (by omega) (hin _ (List.mem_of_getElem? hi))
theorem itR_mem {items : List (Nat × Nat × Array Value)} {i : Nat × Nat × Array Value} (h : i ∈ items) : (i.1, 66, i.2.2) ∈ itR items := by
  unfold itR; exact List.mem_map.2 ⟨i, List.mem_reverse.2 h, rfl⟩
end Go.Proofs.Ytnfdefeafhepkaa
/- UncoveredBy, SharedCells: the program's. No condition. -/
namespace Go.Proofs.Ytnfdefeafhepkaa
set_option linter.unusedVariables false
set_option linter.unusedSimpArgs false
open Go.RowKit Mem Wk
theorem s_callSS {P : Program} {ops : Array Oper} {Q : Exit → Act → World → Prop} {n : Nat} {O : List Nat} {w0 : World} {o : Oper} {rest : List Oper} {l : List (Nat × Value)} {L : List (Nat × TypeId × Array Value)} {f : FuncId} {fn : Func} {xs : Array Operand} {ts : Array TypeId} {vs : List Value} {d : Nat} {S : List (List Sp)} (hf : P.funcs[f]? = some fn) (hname : (fn.name == "runtime.NumGoroutine") = false) (hb : fn.body.isSome = true) (hg : o.guard = none) (hd : o.dst = some d) (hn : Nat.blt d n = true)
    (hop : o.op = .call { callee := .value (.func f), args := xs, argTypes := ts }) (hargs : evs l xs.toList = some vs) (hc : ∀ w, Kn O w0 w L → Calls P f vs.toArray w (NewSS S w)) (h : ∀ g cap cur items, Ap 1 S.length cap cur (itV S items) → ItOk S items → Wk.S P ops Q n O w0 rest ((d, .slice (some ⟨g, 0, none⟩) S.length cap) :: l) ((g, 38, cur) :: (L ++ itR items))) : Wk.S P ops Q n O w0 (o :: rest) l L :=
  s_callR (ι := Nat × Nat × Array Value × List (Nat × Nat × Array Value)) (fun i => Ap 1 S.length i.2.1 i.2.2.1 (itV S i.2.2.2) ∧ ItOk S i.2.2.2) (fun i => .slice (some ⟨i.1, 0, none⟩) S.length i.2.1) (fun i => (i.1, 38, i.2.2.1) :: (L ++ itR i.2.2.2)) hf hname hb hg hd hn hop hargs
    (fun w hL => (hc w hL).mono fun e w' ⟨g, cap, cur, items, he, hA, hI, hN⟩ => ⟨(g, cap, cur, items), ⟨hA, hI⟩, he, Kn.perm (Kn.app hL hN) (List.Perm.cons _ List.perm_append_comm)⟩) (fun ⟨g, cap, cur, items⟩ ⟨hA, hI⟩ => h g cap cur items hA hI)
attribute [local irreducible] Calls Wk.S Wk.C Wk.E Wk.X Wk.T Wk.Y Wk.anV Wk.orV Wk.andV Wk.shlV Wk.shrV Calm.wpLex CalmB.wpLex bfsN
/-! for the laws: of a slice made by the caller -/
section
variable (p : Nat → Int) (cs : Array Value) (L : List Sk) (g n cap : Nat) (cur : Array Value) (w : World)
end
end Go.Proofs.Ytnfdefeafhepkaa
