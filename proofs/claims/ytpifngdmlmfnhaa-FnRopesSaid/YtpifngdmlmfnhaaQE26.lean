import Derived.Test.YtpifngdmlmfnhaaQE08
import Derived.Test.YtpifngdmlmfnhaaQE13
import Derived.Test.YtpifngdmlmfnhaaQE16
import Derived.Test.YtpifngdmlmfnhaaQE25
/- How a rope winds: both functions. No condition. -/
namespace Go.Proofs.Ytpifngdmlmfnhaa
set_option linter.unusedVariables false
set_option linter.unusedSimpArgs false
open Go.RowKit Mem Wk
attribute [local irreducible] Calls Wk.S Wk.C Wk.E Wk.X Wk.T Wk.Y Wk.anV Wk.orV Wk.andV Wk.shlV Wk.shrV Calm.wpLex CalmB.wpLex
/-- what one step winds around a stake -/
def wdB (o a b : Sp) : Int := if a.x = b.x ∧ o.x < a.x then (if a.y = o.y ∧ b.y = o.y + 1 then 1 else 0) - (if a.y = o.y + 1 ∧ b.y = o.y then 1 else 0) else 0
/-- the sum over the first k steps -/
def wsum (f : Sp → Sp → Int) (l : List Sp) : Nat → Int
  | 0 => 0
  | k + 1 => wsum f l k + match l[k]?, l[k + 1]? with
    | some a, some b => f a b
    | _, _ => 0
theorem wsum_succ {f : Sp → Sp → Int} {l : List Sp} {k : Nat} {a b : Sp} (ha : l[k]? = some a) (hb : l[k + 1]? = some b) : wsum f l (k + 1) = wsum f l k + f a b := by
  rw [wsum, ha, hb]
theorem wdB_le (o a b : Sp) : -1 ≤ wdB o a b ∧ wdB o a b ≤ 1 := by
  unfold wdB; repeat' split
  all_goals omega
theorem wsum_le (o : Sp) (l : List Sp) : ∀ k : Nat, -(k : Int) ≤ wsum (wdB o) l k ∧ wsum (wdB o) l k ≤ k
  | 0 => by simp [wsum]
  | k + 1 => by
    have ih := wsum_le o l k
    rw [wsum]
    split
    · rename_i a b _ _
      have := wdB_le o a b
      omega
    · omega
/-- a valid walk goes step by step -/
theorem besL_near {p : Nat → Int} {x y : Int} {c : Sp} : ∀ {k : Nat}, k ≤ 4 → c ∈ besL p x y k → (c.x = x ∧ (c.y = y + 1 ∨ c.y = y - 1)) ∨ (c.y = y ∧ (c.x = x + 1 ∨ c.x = x - 1))
  | 0, _, h => by simp [besL] at h
  | k + 1, hk, h => by
    cases hc : canB p x y (k : Int)
    · rw [besL_no hc] at h; exact besL_near (by omega) h
    · rw [besL_yes hc] at h
      rcases List.mem_append.1 h with h | h
      · exact besL_near (by omega) h
      · simp at h; subst h
        unfold nextX nextY
        simp only
        repeat' split
        all_goals omega
theorem wkStep_near {p : Nat → Int} {q s : Sp} (h : wkStep p q s = true) : s.x = q.x ∨ s.y = q.y := by
  unfold wkStep at h
  rw [Bool.or_eq_true] at h
  rcases h with h | h
  · unfold eqSp at h; simp at h; exact .inl h.1
  · obtain ⟨c, hc, he⟩ := List.any_eq_true.1 h
    unfold eqSp at he; simp at he
    have := besL_near (Nat.le_refl 4) hc
    omega
theorem wk_near {p : Nat → Int} {o : Sp} {l : List Sp} {k : Nat} {a b : Sp} (h : walkB p o l = true) (ha : l[k]? = some a) (hb : l[k + 1]? = some b) : b.x = a.x ∨ b.y = a.y := by
  unfold walkB at h
  rw [Bool.and_eq_true] at h
  have h2 := wkTo_at h.2 (List.getElem?_eq_some_iff.1 hb).1
  unfold wkAt at h2
  rw [hb] at h2
  simp only [ha, Bool.and_eq_true] at h2
  exact wkStep_near h2.2
set_option maxRecDepth 100000 in
set_option maxHeartbeats 1600000 in
theorem implWinds_any (o : Sp) (l : List Sp) (A : Option Addr) (cap : Nat) (w : World) (ho : inR o) (hS : SlA [] w 2 A (l.map Sp.cells)) (hn : l.length ≤ 1048576) (hok : ∀ s ∈ l, s.ok) :
    Calls Try.prog 161 #[.agg #[.int .i8 o.x, .int .i8 o.y], .slice A l.length cap] w fun e w' => e = .returned (.int .i64 (wsum (wdB o) l (l.length - 1))) ∧ Below w.heap.size w w' := by
  have hox : 0 ≤ o.x ∧ o.x < 10 := ⟨ho.1, ho.2.1⟩
  have hoy : 0 ≤ o.y ∧ o.y < 10 := ho.2.2
  refine enter2 Try.func161 rfl rfl rfl (Own.start w) ?_
  repeat' (first
    | (refine s_g ?_; first
      | (refine s_gd rfl ?_; first | refine s_gd1 rfl rfl zTr ?_ | refine s_gd0 rfl rfl rfl zTr ?_ | refine s_gd00 rfl rfl zTr ?_ | refine s_gp1 rfl rfl rfl (fun hc => ?_) (fun hc => ?_) | refine s_gp0 rfl rfl rfl (fun hc => ?_) (fun hc => ?_) | refine s_gnp1 rfl rfl rfl (fun hc => ?_) (fun hc => ?_) | refine s_gnp0 rfl rfl rfl (fun hc => ?_) (fun hc => ?_) | refine s_gb1 rfl rfl rfl (fun hc => ?_) (fun hc => ?_) | refine s_gb0 rfl rfl rfl (fun hc => ?_) (fun hc => ?_) | refine s_gnb1 rfl rfl rfl (fun hc => ?_) (fun hc => ?_) | refine s_gnb0 rfl rfl rfl (fun hc => ?_) (fun hc => ?_))
      | (refine s_k 0 rfl ?_; refine s_val rfl rfl rfl (r_move rfl rfl) ?_)
      | (refine s_k 23 rfl ?_; first | refine s_val rfl rfl rfl (r_field tb rfl rfl rfl) ?_ | refine s_val rfl rfl rfl (r_fieldS tb rfl rfl rfl) ?_)
      | (refine s_k 8 rfl ?_; first | (refine' s_val rfl rfl rfl (r_ldv rfl rfl ?qm ?qv) ?_; (case qm => (exact zMm)); (case qv => (first | exact ldvL tb rfl rfl | exact ldv1 tb rfl (by assumption) | exact ldvW tb rfl rfl | exact ldvW tb rfl (by assumption) | exact ldvW tb rfl (Pv.size (by assumption)) | exact ldvN tb rfl ext2_0 rfl | exact ldvN tb rfl ext2_2 rfl))) | (refine' s_val rfl rfl rfl (r_ldo rfl rfl ?qw (by simp) ?qv) ?_; (case qw => assumption); (case qv => (first | exact ldvL tb rfl rfl | exact ldv1 tb rfl (by assumption) | exact ldvW tb rfl rfl | exact ldvW tb rfl (by assumption) | exact ldvW tb rfl (Pv.size (by assumption)) | exact ldvN tb rfl ext2_0 rfl | exact ldvN tb rfl ext2_2 rfl))))
      | (refine s_k 1 rfl ?_; refine s_val rfl rfl rfl (r_assign rfl rfl) ?_)
      | (refine s_k 13 rfl ?_; first | refine s_val rfl rfl rfl (r_lss rfl rfl rfl) ?_ | refine s_val rfl rfl rfl (r_eql rfl rfl rfl) ?_ | refine s_val rfl rfl rfl (r_neq rfl rfl rfl) ?_ | refine s_val rfl rfl rfl (r_add rfl rfl rfl (wrap_in (by simp only [lo, hi]; omega))) ?_ | refine s_val rfl rfl rfl (r_sub rfl rfl rfl (wrap_in (by simp only [lo, hi]; omega))) ?_ | refine s_val rfl rfl rfl (r_leq rfl rfl rfl) ?_)
      | (refine s_k 2 rfl ?_; first | refine s_val rfl rfl rfl (r_pick1 rfl rfl zTr rfl) ?_ | refine s_val rfl rfl rfl (r_pick0 rfl rfl zTr rfl) ?_)
      | (refine s_k 25 rfl ?_; first | refine s_val rfl rfl rfl (r_ixN tb rfl rfl rfl rfl (by omega)) ?_ | refine s_val rfl rfl rfl (r_ixA tb rfl rfl rfl rfl (by omega) (by omega)) ?_ | refine s_val rfl rfl rfl (r_ixO tb rfl rfl rfl rfl (by omega)) ?_)
      | (refine s_k 4 rfl ?_; first | refine s_boxA rfl rfl rfl rfl rfl fun blk => ?_ | refine s_box1 rfl rfl rfl rfl rfl rfl fun blk => ?_)
      | (refine s_k 9 rfl ?_; (first | refine s_st1 tb rfl rfl rfl rfl rfl rfl rfl rfl ?_ | refine s_stA tb rfl rfl rfl rfl (by first | rfl | assumption | (apply Pv.size; assumption)) rfl rfl ?_); (first | refine' st0 ?qs ?_ | refine' st1 ?qs ?_ | refine' st2 ?qs ?_ | refine' st3 ?qs ?_ | refine' st4 ?qs ?_ | refine' st5 ?qs ?_ | refine' st6 ?qs ?_ | refine' st7 ?qs ?_ | refine' st8 ?qs ?_ | refine' st9 ?qs ?_ | refine' st10 ?qs ?_ | refine' st11 ?qs ?_); (case qs => (first | exact zSet)))
      | (refine s_k 36 rfl ?_; refine s_val rfl rfl rfl (r_len tb rfl rfl rfl) ?_)
      | refine s_nil ?_)
    | (refine c_g ?_; first | refine c_seq ?_ | refine c_region ?_ | (refine c_gc ?_; first | refine c_cond1 rfl zTr ?_ | refine c_cond0 rfl zTr ?_ | refine z_condd1 rfl ?_ | refine z_condd0 rfl ?_ | refine z_conddn1 rfl ?_ | refine z_conddn0 rfl ?_ | refine c_condd rfl (fun hc => ?_) (fun hc => ?_) | refine c_conddn rfl (fun hc => ?_) (fun hc => ?_) | refine c_condn rfl (fun hc => ?_) (fun hc => ?_) | refine c_cond rfl (fun hc => ?_) (fun hc => ?_)) | refine c_block ?_ | refine c_skip ?_ | refine c_exit ?_ | refine c_ret ?_)
    | (refine e_g ?_; first | refine e_then ?_ | refine e_blkn ?_ | refine e_thenx ?_ | refine e_thenr ?_ | refine e_blkr ?_ | refine e_blkx ?_ | refine e_blky rfl ?_))
  refine c_loop (ι := Nat) (fun k => l.length - k) (fun k => k = 0 ∨ k < l.length) (fun k => [(6, .int .i64 ((k + 1 : Nat) : Int)), (5, .int .i64 (wsum (wdB o) l k)), (1, .slice A l.length cap), (2, .pointer (some ⟨blk, 0, none⟩))]) (fun k => [(blk, 88, #[.int .i8 o.x, .int .i8 o.y])]) 0 (.inl rfl) ?hs rfl ?_
  case hs => (repeat' (first | exact sub_nil | refine sub_cons rfl ?_))
  rintro k hk
  by_cases hlt : k + 1 < l.length
  · have hx : l[k + 1]? = some l[k + 1] := List.getElem?_eq_getElem hlt
    have hq : l[k]? = some l[k] := List.getElem?_eq_getElem (by omega)
    have hb := hok _ (List.getElem_mem hlt)
    have ha := hok l[k] (List.getElem_mem (by omega))
    have hx' : (l.map Sp.cells)[k + 1]? = some l[k + 1].cells := by simp [hx]
    have hq' : (l.map Sp.cells)[k]? = some l[k].cells := by simp [hq]
    have hltx : k + 1 < (l.map Sp.cells).length := by simpa using hlt
    have hltq : k < (l.map Sp.cells).length := by simp; omega
    have hj1 : IntKind.i64.wrap (((k + 1 : Nat) : Int) - 1) = (k : Int) := by rw [show ((k + 1 : Nat) : Int) - 1 = (k : Int) by omega]; exact wrap_in (by simp only [lo, hi]; omega)
    have hsum := wsum_succ (f := wdB o) hq hx
    have hle := wsum_le o l k
    generalize l[k + 1] = b at *
    generalize l[k] = a at *
    have hd1 : (k : Int) ≤ 1048576 := by omega
    by_cases h1 : a.x = b.x
    · by_cases h2 : a.x ≤ o.x
      · have hw : wdB o a b = 0 := by unfold wdB; rw [if_neg (by omega)]
        rw [hw, Int.add_zero] at hsum
        repeat' (first
          | (refine s_g ?_; first
      | (refine s_gd rfl ?_; first | refine s_gd1 rfl rfl zTr ?_ | refine s_gd0 rfl rfl rfl zTr ?_ | refine s_gd00 rfl rfl zTr ?_ | refine s_gp1 rfl rfl rfl (fun hc => ?_) (fun hc => ?_) | refine s_gp0 rfl rfl rfl (fun hc => ?_) (fun hc => ?_) | refine s_gnp1 rfl rfl rfl (fun hc => ?_) (fun hc => ?_) | refine s_gnp0 rfl rfl rfl (fun hc => ?_) (fun hc => ?_) | refine s_gb1 rfl rfl rfl (fun hc => ?_) (fun hc => ?_) | refine s_gb0 rfl rfl rfl (fun hc => ?_) (fun hc => ?_) | refine s_gnb1 rfl rfl rfl (fun hc => ?_) (fun hc => ?_) | refine s_gnb0 rfl rfl rfl (fun hc => ?_) (fun hc => ?_))
      | (refine s_k 0 rfl ?_; refine s_val rfl rfl rfl (r_move rfl rfl) ?_)
      | (refine s_k 23 rfl ?_; first | refine s_val rfl rfl rfl (r_field tb rfl rfl rfl) ?_ | refine s_val rfl rfl rfl (r_fieldS tb rfl rfl rfl) ?_)
      | (refine s_k 8 rfl ?_; first | refine s_val rfl rfl rfl (r_ldS tb rfl hS rfl hx' rfl) ?_ | refine s_val rfl rfl rfl (r_ldS tb rfl hS rfl hq' rfl) ?_ | (refine' s_val rfl rfl rfl (r_ldv rfl rfl ?qm ?qv) ?_; (case qm => (exact zMm)); (case qv => (first | exact ldvL tb rfl rfl | exact ldv1 tb rfl (by assumption) | exact ldvW tb rfl rfl | exact ldvW tb rfl (by assumption) | exact ldvW tb rfl (Pv.size (by assumption)) | exact ldvN tb rfl ext2_0 rfl | exact ldvN tb rfl ext2_2 rfl))) | (refine' s_val rfl rfl rfl (r_ldo rfl rfl ?qw (by simp) ?qv) ?_; (case qw => assumption); (case qv => (first | exact ldvL tb rfl rfl | exact ldv1 tb rfl (by assumption) | exact ldvW tb rfl rfl | exact ldvW tb rfl (by assumption) | exact ldvW tb rfl (Pv.size (by assumption)) | exact ldvN tb rfl ext2_0 rfl | exact ldvN tb rfl ext2_2 rfl))))
      | (refine s_k 1 rfl ?_; refine s_val rfl rfl rfl (r_assign rfl rfl) ?_)
      | (refine s_k 13 rfl ?_; first | refine s_val rfl rfl rfl (r_sub rfl rfl rfl hj1) ?_ | refine s_val rfl rfl rfl (r_lss rfl rfl rfl) ?_ | refine s_val rfl rfl rfl (r_eql rfl rfl rfl) ?_ | refine s_val rfl rfl rfl (r_neq rfl rfl rfl) ?_ | refine s_val rfl rfl rfl (r_add rfl rfl rfl (wrap_in (by simp only [lo, hi]; omega))) ?_ | refine s_val rfl rfl rfl (r_sub rfl rfl rfl (wrap_in (by simp only [lo, hi]; omega))) ?_ | refine s_val rfl rfl rfl (r_leq rfl rfl rfl) ?_)
      | (refine s_k 2 rfl ?_; first | refine s_val rfl rfl rfl (r_pick1 rfl rfl zTr rfl) ?_ | refine s_val rfl rfl rfl (r_pick0 rfl rfl zTr rfl) ?_)
      | (refine s_k 25 rfl ?_; first | refine s_val rfl rfl rfl (r_ixS tb rfl hS rfl rfl rfl (by simp) hltx) ?_ | refine s_val rfl rfl rfl (r_ixS tb rfl hS rfl rfl rfl (by simp) hltq) ?_ | refine s_val rfl rfl rfl (r_ixN tb rfl rfl rfl rfl (by omega)) ?_ | refine s_val rfl rfl rfl (r_ixA tb rfl rfl rfl rfl (by omega) (by omega)) ?_ | refine s_val rfl rfl rfl (r_ixO tb rfl rfl rfl rfl (by omega)) ?_)
      | (refine s_k 4 rfl ?_; first | refine s_boxA rfl rfl rfl rfl rfl fun blk => ?_ | refine s_box1 rfl rfl rfl rfl rfl rfl fun blk => ?_)
      | (refine s_k 9 rfl ?_; (first | refine s_st1 tb rfl rfl rfl rfl rfl rfl rfl rfl ?_ | refine s_stA tb rfl rfl rfl rfl (by first | rfl | assumption | (apply Pv.size; assumption)) rfl rfl ?_); (first | refine' st0 ?qs ?_ | refine' st1 ?qs ?_ | refine' st2 ?qs ?_ | refine' st3 ?qs ?_ | refine' st4 ?qs ?_ | refine' st5 ?qs ?_ | refine' st6 ?qs ?_ | refine' st7 ?qs ?_ | refine' st8 ?qs ?_ | refine' st9 ?qs ?_ | refine' st10 ?qs ?_ | refine' st11 ?qs ?_); (case qs => (first | exact zSet)))
      | (refine s_k 3 rfl ?_; refine s_allocA (t := 88) rfl zImplSpot rfl rfl rfl fun blk => ?_)
      | (refine s_k 36 rfl ?_; refine s_val rfl rfl rfl (r_len tb rfl rfl rfl) ?_)
      | refine s_nil ?_)
          | (refine c_g ?_; first | refine c_seq ?_ | refine c_region ?_ | (refine c_gc ?_; first | refine c_cond1 rfl zTr ?_ | refine c_cond0 rfl zTr ?_ | refine z_condd1 rfl ?_ | refine z_condd0 rfl ?_ | refine z_conddn1 rfl ?_ | refine z_conddn0 rfl ?_ | refine c_condd rfl (fun hc => ?_) (fun hc => ?_) | refine c_conddn rfl (fun hc => ?_) (fun hc => ?_) | refine c_condn rfl (fun hc => ?_) (fun hc => ?_) | refine c_cond rfl (fun hc => ?_) (fun hc => ?_)) | refine c_block ?_ | refine c_skip ?_ | refine c_exit ?_ | refine c_ret ?_)
          | (refine e_g ?_; first | refine e_then ?_ | refine e_blkn ?_ | refine e_thenx ?_ | refine e_thenr ?_ | refine e_blkr ?_ | refine e_blkx ?_ | refine e_blky rfl ?_)
          | (refine x_g ?_; first
      | (refine x_gd rfl ?_; first | refine x_gd1 rfl rfl zTr ?_ | (refine x_gd0 rfl rfl rfl zTr ?hp ?_; (case hp => exact rfl)))
      | (refine x_k 0 rfl ?_; (refine x_val rfl rfl rfl (r_move rfl rfl) ?hp ?_; (case hp => exact rfl)))
      | (refine x_k 23 rfl ?_; first | (refine x_val rfl rfl rfl (r_field tb rfl rfl rfl) ?hp ?_; (case hp => exact rfl)) | (refine x_val rfl rfl rfl (r_fieldS tb rfl rfl rfl) ?hp ?_; (case hp => exact rfl)))
      | (refine x_k 8 rfl ?_; first | (refine x_val rfl rfl rfl (r_ldS tb rfl hS rfl hx' rfl) ?hp ?_; (case hp => exact rfl)) | (refine x_val rfl rfl rfl (r_ldS tb rfl hS rfl hq' rfl) ?hp ?_; (case hp => exact rfl)) | (refine' x_val rfl rfl rfl (r_ldv rfl rfl ?qm ?qv) ?hp ?_; (case qm => (exact zMm)); (case qv => (first | exact ldvL tb rfl rfl | exact ldv1 tb rfl (by assumption) | exact ldvW tb rfl rfl | exact ldvW tb rfl (by assumption) | exact ldvW tb rfl (Pv.size (by assumption)) | exact ldvN tb rfl ext2_0 rfl | exact ldvN tb rfl ext2_2 rfl)); (case hp => exact rfl)) | (refine' x_val rfl rfl rfl (r_ldo rfl rfl ?qw (by simp) ?qv) ?hp ?_; (case qw => assumption); (case qv => (first | exact ldvL tb rfl rfl | exact ldv1 tb rfl (by assumption) | exact ldvW tb rfl rfl | exact ldvW tb rfl (by assumption) | exact ldvW tb rfl (Pv.size (by assumption)) | exact ldvN tb rfl ext2_0 rfl | exact ldvN tb rfl ext2_2 rfl)); (case hp => exact rfl)))
      | (refine x_k 1 rfl ?_; (refine x_val rfl rfl rfl (r_assign rfl rfl) ?hp ?_; (case hp => exact rfl)))
      | (refine x_k 13 rfl ?_; first | (refine x_val rfl rfl rfl (r_sub rfl rfl rfl hj1) ?hp ?_; (case hp => exact rfl)) | (refine x_val rfl rfl rfl (r_lss rfl rfl rfl) ?hp ?_; (case hp => exact rfl)) | (refine x_val rfl rfl rfl (r_eql rfl rfl rfl) ?hp ?_; (case hp => exact rfl)) | (refine x_val rfl rfl rfl (r_neq rfl rfl rfl) ?hp ?_; (case hp => exact rfl)) | (refine x_val rfl rfl rfl (r_add rfl rfl rfl (wrap_in (by simp only [lo, hi]; omega))) ?hp ?_; (case hp => exact rfl)) | (refine x_val rfl rfl rfl (r_sub rfl rfl rfl (wrap_in (by simp only [lo, hi]; omega))) ?hp ?_; (case hp => exact rfl)) | (refine x_val rfl rfl rfl (r_leq rfl rfl rfl) ?hp ?_; (case hp => exact rfl)))
      | (refine x_k 2 rfl ?_; first | (refine x_val rfl rfl rfl (r_pick1 rfl rfl zTr rfl) ?hp ?_; (case hp => exact rfl)) | (refine x_val rfl rfl rfl (r_pick0 rfl rfl zTr rfl) ?hp ?_; (case hp => exact rfl)))
      | (refine x_k 25 rfl ?_; first | (refine x_val rfl rfl rfl (r_ixS tb rfl hS rfl rfl rfl (by simp) hltx) ?hp ?_; (case hp => exact rfl)) | (refine x_val rfl rfl rfl (r_ixS tb rfl hS rfl rfl rfl (by simp) hltq) ?hp ?_; (case hp => exact rfl)) | (refine x_val rfl rfl rfl (r_ixN tb rfl rfl rfl rfl (by omega)) ?hp ?_; (case hp => exact rfl)) | (refine x_val rfl rfl rfl (r_ixA tb rfl rfl rfl rfl (by omega) (by omega)) ?hp ?_; (case hp => exact rfl)) | (refine x_val rfl rfl rfl (r_ixO tb rfl rfl rfl rfl (by omega)) ?hp ?_; (case hp => exact rfl)))
      | (refine x_k 4 rfl ?_; (refine x_boxA rfl rfl rfl rfl rfl ?hp (fun blk => ?_); (case hp => exact rfl)))
      | (refine x_k 9 rfl ?_; first | (refine' x_putA0 tb rfl rfl rfl rfl (by first | rfl | assumption | (apply Pv.size; assumption)) ?qs (by first | rfl | assumption | (apply Pv.size; assumption)) rfl rfl ?hp ?_; (case qs => (first | exact zSet)); (case hp => exact rfl)) | (refine' x_putA1 tb rfl rfl rfl rfl (by first | rfl | assumption | (apply Pv.size; assumption)) ?qs (by first | rfl | assumption | (apply Pv.size; assumption)) rfl rfl ?hp ?_; (case qs => (first | exact zSet)); (case hp => exact rfl)) | (refine' x_putA2 tb rfl rfl rfl rfl (by first | rfl | assumption | (apply Pv.size; assumption)) ?qs (by first | rfl | assumption | (apply Pv.size; assumption)) rfl rfl ?hp ?_; (case qs => (first | exact zSet)); (case hp => exact rfl)))
      | (refine x_k 3 rfl ?_; (refine x_allocA (t := 88) rfl zImplSpot rfl rfl rfl ?hp (fun blk => ?_); (case hp => exact rfl)))
      | (refine x_k 36 rfl ?_; (refine x_val rfl rfl rfl (r_len tb rfl rfl rfl) ?hp ?_; (case hp => exact rfl)))
      | refine x_nil0 ?_
      | refine x_nil ?_)
          | (refine' c_drawX (id := 5) [(Sum.inl _ : Calm.Plan), (Sum.inl _ : Calm.Plan), (Sum.inl _ : Calm.Plan), (Sum.inl _ : Calm.Plan), (Sum.inl _ : Calm.Plan), (Sum.inl _ : Calm.Plan), (Sum.inl _ : Calm.Plan), (Sum.inl _ : Calm.Plan), (Sum.inl _ : Calm.Plan), (Sum.inr (false, _, _) : Calm.Plan), (Sum.inr (false, _, _) : Calm.Plan), (Sum.inr (true, _, _) : Calm.Plan), (Sum.inr (true, _, _) : Calm.Plan)] (by kernel_rfl) (by kernel_rfl) (by kernel_rfl) ?_)
          | (refine e_drop0 (e_drop0 (e_round (k + 1) (by omega) (.inr hlt) ?_ rfl)); exact sub_cons rfl (sub_cons' rfl (by rw [hsum]) (by repeat' (first | exact sub_nil | refine sub_cons rfl ?_)))))
      · have e0 : bt false = 0 := rfl
        have e1 : 0 ≤ bt (decide (b.y = o.y + 1)) ∧ bt (decide (b.y = o.y + 1)) ≤ 1 := bt_le _
        have e2 : 0 ≤ bt (decide (b.y = o.y)) ∧ bt (decide (b.y = o.y)) ≤ 1 := bt_le _
        by_cases g1 : a.y = o.y <;> by_cases g3 : a.y = o.y + 1
        all_goals
          repeat' (first
            | (refine s_g ?_; first
      | (refine s_gd rfl ?_; first | refine s_gd1 rfl rfl zTr ?_ | refine s_gd0 rfl rfl rfl zTr ?_ | refine s_gd00 rfl rfl zTr ?_ | refine s_gp1 rfl rfl rfl (fun hc => ?_) (fun hc => ?_) | refine s_gp0 rfl rfl rfl (fun hc => ?_) (fun hc => ?_) | refine s_gnp1 rfl rfl rfl (fun hc => ?_) (fun hc => ?_) | refine s_gnp0 rfl rfl rfl (fun hc => ?_) (fun hc => ?_) | refine s_gb1 rfl rfl rfl (fun hc => ?_) (fun hc => ?_) | refine s_gb0 rfl rfl rfl (fun hc => ?_) (fun hc => ?_) | refine s_gnb1 rfl rfl rfl (fun hc => ?_) (fun hc => ?_) | refine s_gnb0 rfl rfl rfl (fun hc => ?_) (fun hc => ?_))
      | (refine s_k 0 rfl ?_; refine s_val rfl rfl rfl (r_move rfl rfl) ?_)
      | (refine s_k 23 rfl ?_; first | refine s_val rfl rfl rfl (r_field tb rfl rfl rfl) ?_ | refine s_val rfl rfl rfl (r_fieldS tb rfl rfl rfl) ?_)
      | (refine s_k 8 rfl ?_; first | refine s_val rfl rfl rfl (r_ldS tb rfl hS rfl hx' rfl) ?_ | refine s_val rfl rfl rfl (r_ldS tb rfl hS rfl hq' rfl) ?_ | (refine' s_val rfl rfl rfl (r_ldv rfl rfl ?qm ?qv) ?_; (case qm => (exact zMm)); (case qv => (first | exact ldvL tb rfl rfl | exact ldv1 tb rfl (by assumption) | exact ldvW tb rfl rfl | exact ldvW tb rfl (by assumption) | exact ldvW tb rfl (Pv.size (by assumption)) | exact ldvN tb rfl ext2_0 rfl | exact ldvN tb rfl ext2_2 rfl))) | (refine' s_val rfl rfl rfl (r_ldo rfl rfl ?qw (by simp) ?qv) ?_; (case qw => assumption); (case qv => (first | exact ldvL tb rfl rfl | exact ldv1 tb rfl (by assumption) | exact ldvW tb rfl rfl | exact ldvW tb rfl (by assumption) | exact ldvW tb rfl (Pv.size (by assumption)) | exact ldvN tb rfl ext2_0 rfl | exact ldvN tb rfl ext2_2 rfl))))
      | (refine s_k 1 rfl ?_; refine s_val rfl rfl rfl (r_assign rfl rfl) ?_)
      | (refine s_k 13 rfl ?_; first | refine s_val rfl rfl rfl (r_sub rfl rfl rfl hj1) ?_ | refine s_val rfl rfl rfl (r_lss rfl rfl rfl) ?_ | refine s_val rfl rfl rfl (r_eql rfl rfl rfl) ?_ | refine s_val rfl rfl rfl (r_neq rfl rfl rfl) ?_ | refine s_val rfl rfl rfl (r_add rfl rfl rfl (wrap_in (by simp only [lo, hi]; omega))) ?_ | refine s_val rfl rfl rfl (r_sub rfl rfl rfl (wrap_in (by simp only [lo, hi]; omega))) ?_ | refine s_val rfl rfl rfl (r_leq rfl rfl rfl) ?_)
      | (refine s_k 35 rfl ?_; (refine s_call Try.func221 (by kernel_rfl) rfl rfl rfl rfl rfl rfl (fun w hL => to_below (bit_any _ _) rfl) ?_))
      | (refine s_k 2 rfl ?_; first | refine s_val rfl rfl rfl (r_pick1 rfl rfl zTr rfl) ?_ | refine s_val rfl rfl rfl (r_pick0 rfl rfl zTr rfl) ?_)
      | (refine s_k 25 rfl ?_; first | refine s_val rfl rfl rfl (r_ixS tb rfl hS rfl rfl rfl (by simp) hltx) ?_ | refine s_val rfl rfl rfl (r_ixS tb rfl hS rfl rfl rfl (by simp) hltq) ?_ | refine s_val rfl rfl rfl (r_ixN tb rfl rfl rfl rfl (by omega)) ?_ | refine s_val rfl rfl rfl (r_ixA tb rfl rfl rfl rfl (by omega) (by omega)) ?_ | refine s_val rfl rfl rfl (r_ixO tb rfl rfl rfl rfl (by omega)) ?_)
      | (refine s_k 4 rfl ?_; first | refine s_boxA rfl rfl rfl rfl rfl fun blk => ?_ | refine s_box1 rfl rfl rfl rfl rfl rfl fun blk => ?_)
      | (refine s_k 9 rfl ?_; (first | refine s_st1 tb rfl rfl rfl rfl rfl rfl rfl rfl ?_ | refine s_stA tb rfl rfl rfl rfl (by first | rfl | assumption | (apply Pv.size; assumption)) rfl rfl ?_); (first | refine' st0 ?qs ?_ | refine' st1 ?qs ?_ | refine' st2 ?qs ?_ | refine' st3 ?qs ?_ | refine' st4 ?qs ?_ | refine' st5 ?qs ?_ | refine' st6 ?qs ?_ | refine' st7 ?qs ?_ | refine' st8 ?qs ?_ | refine' st9 ?qs ?_ | refine' st10 ?qs ?_ | refine' st11 ?qs ?_); (case qs => (first | exact zSet)))
      | (refine s_k 3 rfl ?_; refine s_allocA (t := 88) rfl zImplSpot rfl rfl rfl fun blk => ?_)
      | (refine s_k 36 rfl ?_; refine s_val rfl rfl rfl (r_len tb rfl rfl rfl) ?_)
      | refine s_nil ?_)
            | (refine c_g ?_; first | refine c_seq ?_ | refine c_region ?_ | (refine c_gc ?_; first | refine c_cond1 rfl zTr ?_ | refine c_cond0 rfl zTr ?_ | refine z_condd1 rfl ?_ | refine z_condd0 rfl ?_ | refine z_conddn1 rfl ?_ | refine z_conddn0 rfl ?_ | refine c_condd rfl (fun hc => ?_) (fun hc => ?_) | refine c_conddn rfl (fun hc => ?_) (fun hc => ?_) | refine c_condn rfl (fun hc => ?_) (fun hc => ?_) | refine c_cond rfl (fun hc => ?_) (fun hc => ?_)) | refine c_block ?_ | refine c_skip ?_ | refine c_exit ?_ | refine c_ret ?_)
            | (refine e_g ?_; first | refine e_then ?_ | refine e_blkn ?_ | refine e_thenx ?_ | refine e_thenr ?_ | refine e_blkr ?_ | refine e_blkx ?_ | refine e_blky rfl ?_)
            | (refine x_g ?_; first
      | (refine x_gd rfl ?_; first | refine x_gd1 rfl rfl zTr ?_ | (refine x_gd0 rfl rfl rfl zTr ?hp ?_; (case hp => exact rfl)) | (refine x_gdu rfl rfl rfl ?hp ?_; (case hp => exact rfl)))
      | (refine x_k 0 rfl ?_; (refine x_val rfl rfl rfl (r_move rfl rfl) ?hp ?_; (case hp => exact rfl)))
      | (refine x_k 23 rfl ?_; first | (refine x_val rfl rfl rfl (r_field tb rfl rfl rfl) ?hp ?_; (case hp => exact rfl)) | (refine x_val rfl rfl rfl (r_fieldS tb rfl rfl rfl) ?hp ?_; (case hp => exact rfl)))
      | (refine x_k 8 rfl ?_; first | (refine x_val rfl rfl rfl (r_ldS tb rfl hS rfl hx' rfl) ?hp ?_; (case hp => exact rfl)) | (refine x_val rfl rfl rfl (r_ldS tb rfl hS rfl hq' rfl) ?hp ?_; (case hp => exact rfl)) | (refine' x_val rfl rfl rfl (r_ldv rfl rfl ?qm ?qv) ?hp ?_; (case qm => (exact zMm)); (case qv => (first | exact ldvL tb rfl rfl | exact ldv1 tb rfl (by assumption) | exact ldvW tb rfl rfl | exact ldvW tb rfl (by assumption) | exact ldvW tb rfl (Pv.size (by assumption)) | exact ldvN tb rfl ext2_0 rfl | exact ldvN tb rfl ext2_2 rfl)); (case hp => exact rfl)) | (refine' x_val rfl rfl rfl (r_ldo rfl rfl ?qw (by simp) ?qv) ?hp ?_; (case qw => assumption); (case qv => (first | exact ldvL tb rfl rfl | exact ldv1 tb rfl (by assumption) | exact ldvW tb rfl rfl | exact ldvW tb rfl (by assumption) | exact ldvW tb rfl (Pv.size (by assumption)) | exact ldvN tb rfl ext2_0 rfl | exact ldvN tb rfl ext2_2 rfl)); (case hp => exact rfl)))
      | (refine x_k 1 rfl ?_; (refine x_val rfl rfl rfl (r_assign rfl rfl) ?hp ?_; (case hp => exact rfl)))
      | (refine x_k 13 rfl ?_; first | (refine x_val rfl rfl rfl (r_sub rfl rfl rfl hj1) ?hp ?_; (case hp => exact rfl)) | (refine x_val rfl rfl rfl (r_lss rfl rfl rfl) ?hp ?_; (case hp => exact rfl)) | (refine x_val rfl rfl rfl (r_eql rfl rfl rfl) ?hp ?_; (case hp => exact rfl)) | (refine x_val rfl rfl rfl (r_neq rfl rfl rfl) ?hp ?_; (case hp => exact rfl)) | (refine x_val rfl rfl rfl (r_add rfl rfl rfl (wrap_in (by simp only [lo, hi]; omega))) ?hp ?_; (case hp => exact rfl)) | (refine x_val rfl rfl rfl (r_sub rfl rfl rfl (wrap_in (by simp only [lo, hi]; omega))) ?hp ?_; (case hp => exact rfl)) | (refine x_val rfl rfl rfl (r_leq rfl rfl rfl) ?hp ?_; (case hp => exact rfl)))
      | (refine x_k 35 rfl ?_; (refine x_call Try.func221 (by kernel_rfl) rfl rfl rfl rfl rfl rfl (fun w hL => to_below (bit_any _ _) rfl) ?hp ?_; (case hp => exact rfl)))
      | (refine x_k 2 rfl ?_; first | (refine x_val rfl rfl rfl (r_pick1 rfl rfl zTr rfl) ?hp ?_; (case hp => exact rfl)) | (refine x_val rfl rfl rfl (r_pick0 rfl rfl zTr rfl) ?hp ?_; (case hp => exact rfl)))
      | (refine x_k 25 rfl ?_; first | (refine x_val rfl rfl rfl (r_ixS tb rfl hS rfl rfl rfl (by simp) hltx) ?hp ?_; (case hp => exact rfl)) | (refine x_val rfl rfl rfl (r_ixS tb rfl hS rfl rfl rfl (by simp) hltq) ?hp ?_; (case hp => exact rfl)) | (refine x_val rfl rfl rfl (r_ixN tb rfl rfl rfl rfl (by omega)) ?hp ?_; (case hp => exact rfl)) | (refine x_val rfl rfl rfl (r_ixA tb rfl rfl rfl rfl (by omega) (by omega)) ?hp ?_; (case hp => exact rfl)) | (refine x_val rfl rfl rfl (r_ixO tb rfl rfl rfl rfl (by omega)) ?hp ?_; (case hp => exact rfl)))
      | (refine x_k 4 rfl ?_; (refine x_boxA rfl rfl rfl rfl rfl ?hp (fun blk => ?_); (case hp => exact rfl)))
      | (refine x_k 9 rfl ?_; first | (refine' x_putA0 tb rfl rfl rfl rfl (by first | rfl | assumption | (apply Pv.size; assumption)) ?qs (by first | rfl | assumption | (apply Pv.size; assumption)) rfl rfl ?hp ?_; (case qs => (first | exact zSet)); (case hp => exact rfl)) | (refine' x_putA1 tb rfl rfl rfl rfl (by first | rfl | assumption | (apply Pv.size; assumption)) ?qs (by first | rfl | assumption | (apply Pv.size; assumption)) rfl rfl ?hp ?_; (case qs => (first | exact zSet)); (case hp => exact rfl)) | (refine' x_putA2 tb rfl rfl rfl rfl (by first | rfl | assumption | (apply Pv.size; assumption)) ?qs (by first | rfl | assumption | (apply Pv.size; assumption)) rfl rfl ?hp ?_; (case qs => (first | exact zSet)); (case hp => exact rfl)))
      | (refine x_k 3 rfl ?_; (refine x_allocA (t := 88) rfl zImplSpot rfl rfl rfl ?hp (fun blk => ?_); (case hp => exact rfl)))
      | (refine x_k 36 rfl ?_; (refine x_val rfl rfl rfl (r_len tb rfl rfl rfl) ?hp ?_; (case hp => exact rfl)))
      | refine x_nil0 ?_
      | refine x_nil ?_)
            | (refine' c_drawX (id := 5) [(Sum.inl _ : Calm.Plan), (Sum.inl _ : Calm.Plan), (Sum.inl _ : Calm.Plan), (Sum.inl _ : Calm.Plan), (Sum.inl _ : Calm.Plan), (Sum.inl _ : Calm.Plan), (Sum.inl _ : Calm.Plan), (Sum.inl _ : Calm.Plan), (Sum.inl _ : Calm.Plan), (Sum.inr (false, _, _) : Calm.Plan), (Sum.inr (false, _, _) : Calm.Plan), (Sum.inr (true, _, _) : Calm.Plan), (Sum.inr (true, _, _) : Calm.Plan)] (by kernel_rfl) (by kernel_rfl) (by kernel_rfl) ?_)
            | (refine' c_drawX (id := 7) [(Sum.inl _ : Calm.Plan), (Sum.inl _ : Calm.Plan), (Sum.inl _ : Calm.Plan), (Sum.inl _ : Calm.Plan), (Sum.inl _ : Calm.Plan), (Sum.inl _ : Calm.Plan), (Sum.inl _ : Calm.Plan), (Sum.inl _ : Calm.Plan), (Sum.inl _ : Calm.Plan), (Sum.inl _ : Calm.Plan), (Sum.inl _ : Calm.Plan), (Sum.inl _ : Calm.Plan), (Sum.inl _ : Calm.Plan), (Sum.inl _ : Calm.Plan), (Sum.inl _ : Calm.Plan), (Sum.inl _ : Calm.Plan), (Sum.inl _ : Calm.Plan), (Sum.inl _ : Calm.Plan), (Sum.inl _ : Calm.Plan), (Sum.inl _ : Calm.Plan), (Sum.inl _ : Calm.Plan), (Sum.inl _ : Calm.Plan), (Sum.inl _ : Calm.Plan), (Sum.inl _ : Calm.Plan), (Sum.inl _ : Calm.Plan), (Sum.inl _ : Calm.Plan), (Sum.inl _ : Calm.Plan), (Sum.inl _ : Calm.Plan), (Sum.inl _ : Calm.Plan), (Sum.inl _ : Calm.Plan), (Sum.inl _ : Calm.Plan), (Sum.inl _ : Calm.Plan)] (by kernel_rfl) (by kernel_rfl) (by kernel_rfl) ?_)
            | (refine e_drop0 (e_drop0 (e_round (k + 1) (by omega) (.inr hlt) ?_ rfl)); exact sub_cons rfl (sub_cons' rfl (by rw [hsum]; simp [wdB, bt, *] <;> omega) (by repeat' (first | exact sub_nil | refine sub_cons rfl ?_)))))
    · have hw : wdB o a b = 0 := by unfold wdB; rw [if_neg (by omega)]
      rw [hw, Int.add_zero] at hsum
      repeat' (first
        | (refine s_g ?_; first
      | (refine s_gd rfl ?_; first | refine s_gd1 rfl rfl zTr ?_ | refine s_gd0 rfl rfl rfl zTr ?_ | refine s_gd00 rfl rfl zTr ?_ | refine s_gp1 rfl rfl rfl (fun hc => ?_) (fun hc => ?_) | refine s_gp0 rfl rfl rfl (fun hc => ?_) (fun hc => ?_) | refine s_gnp1 rfl rfl rfl (fun hc => ?_) (fun hc => ?_) | refine s_gnp0 rfl rfl rfl (fun hc => ?_) (fun hc => ?_) | refine s_gb1 rfl rfl rfl (fun hc => ?_) (fun hc => ?_) | refine s_gb0 rfl rfl rfl (fun hc => ?_) (fun hc => ?_) | refine s_gnb1 rfl rfl rfl (fun hc => ?_) (fun hc => ?_) | refine s_gnb0 rfl rfl rfl (fun hc => ?_) (fun hc => ?_))
      | (refine s_k 0 rfl ?_; refine s_val rfl rfl rfl (r_move rfl rfl) ?_)
      | (refine s_k 23 rfl ?_; first | refine s_val rfl rfl rfl (r_field tb rfl rfl rfl) ?_ | refine s_val rfl rfl rfl (r_fieldS tb rfl rfl rfl) ?_)
      | (refine s_k 8 rfl ?_; first | refine s_val rfl rfl rfl (r_ldS tb rfl hS rfl hx' rfl) ?_ | refine s_val rfl rfl rfl (r_ldS tb rfl hS rfl hq' rfl) ?_ | (refine' s_val rfl rfl rfl (r_ldv rfl rfl ?qm ?qv) ?_; (case qm => (exact zMm)); (case qv => (first | exact ldvL tb rfl rfl | exact ldv1 tb rfl (by assumption) | exact ldvW tb rfl rfl | exact ldvW tb rfl (by assumption) | exact ldvW tb rfl (Pv.size (by assumption)) | exact ldvN tb rfl ext2_0 rfl | exact ldvN tb rfl ext2_2 rfl))) | (refine' s_val rfl rfl rfl (r_ldo rfl rfl ?qw (by simp) ?qv) ?_; (case qw => assumption); (case qv => (first | exact ldvL tb rfl rfl | exact ldv1 tb rfl (by assumption) | exact ldvW tb rfl rfl | exact ldvW tb rfl (by assumption) | exact ldvW tb rfl (Pv.size (by assumption)) | exact ldvN tb rfl ext2_0 rfl | exact ldvN tb rfl ext2_2 rfl))))
      | (refine s_k 1 rfl ?_; refine s_val rfl rfl rfl (r_assign rfl rfl) ?_)
      | (refine s_k 13 rfl ?_; first | refine s_val rfl rfl rfl (r_sub rfl rfl rfl hj1) ?_ | refine s_val rfl rfl rfl (r_lss rfl rfl rfl) ?_ | refine s_val rfl rfl rfl (r_eql rfl rfl rfl) ?_ | refine s_val rfl rfl rfl (r_neq rfl rfl rfl) ?_ | refine s_val rfl rfl rfl (r_add rfl rfl rfl (wrap_in (by simp only [lo, hi]; omega))) ?_ | refine s_val rfl rfl rfl (r_sub rfl rfl rfl (wrap_in (by simp only [lo, hi]; omega))) ?_ | refine s_val rfl rfl rfl (r_leq rfl rfl rfl) ?_)
      | (refine s_k 2 rfl ?_; first | refine s_val rfl rfl rfl (r_pick1 rfl rfl zTr rfl) ?_ | refine s_val rfl rfl rfl (r_pick0 rfl rfl zTr rfl) ?_)
      | (refine s_k 25 rfl ?_; first | refine s_val rfl rfl rfl (r_ixS tb rfl hS rfl rfl rfl (by simp) hltx) ?_ | refine s_val rfl rfl rfl (r_ixS tb rfl hS rfl rfl rfl (by simp) hltq) ?_ | refine s_val rfl rfl rfl (r_ixN tb rfl rfl rfl rfl (by omega)) ?_ | refine s_val rfl rfl rfl (r_ixA tb rfl rfl rfl rfl (by omega) (by omega)) ?_ | refine s_val rfl rfl rfl (r_ixO tb rfl rfl rfl rfl (by omega)) ?_)
      | (refine s_k 4 rfl ?_; first | refine s_boxA rfl rfl rfl rfl rfl fun blk => ?_ | refine s_box1 rfl rfl rfl rfl rfl rfl fun blk => ?_)
      | (refine s_k 9 rfl ?_; (first | refine s_st1 tb rfl rfl rfl rfl rfl rfl rfl rfl ?_ | refine s_stA tb rfl rfl rfl rfl (by first | rfl | assumption | (apply Pv.size; assumption)) rfl rfl ?_); (first | refine' st0 ?qs ?_ | refine' st1 ?qs ?_ | refine' st2 ?qs ?_ | refine' st3 ?qs ?_ | refine' st4 ?qs ?_ | refine' st5 ?qs ?_ | refine' st6 ?qs ?_ | refine' st7 ?qs ?_ | refine' st8 ?qs ?_ | refine' st9 ?qs ?_ | refine' st10 ?qs ?_ | refine' st11 ?qs ?_); (case qs => (first | exact zSet)))
      | (refine s_k 3 rfl ?_; refine s_allocA (t := 88) rfl zImplSpot rfl rfl rfl fun blk => ?_)
      | (refine s_k 36 rfl ?_; refine s_val rfl rfl rfl (r_len tb rfl rfl rfl) ?_)
      | refine s_nil ?_)
        | (refine c_g ?_; first | refine c_seq ?_ | refine c_region ?_ | (refine c_gc ?_; first | refine c_cond1 rfl zTr ?_ | refine c_cond0 rfl zTr ?_ | refine z_condd1 rfl ?_ | refine z_condd0 rfl ?_ | refine z_conddn1 rfl ?_ | refine z_conddn0 rfl ?_ | refine c_condd rfl (fun hc => ?_) (fun hc => ?_) | refine c_conddn rfl (fun hc => ?_) (fun hc => ?_) | refine c_condn rfl (fun hc => ?_) (fun hc => ?_) | refine c_cond rfl (fun hc => ?_) (fun hc => ?_)) | refine c_block ?_ | refine c_skip ?_ | refine c_exit ?_ | refine c_ret ?_)
        | (refine e_g ?_; first | refine e_then ?_ | refine e_blkn ?_ | refine e_thenx ?_ | refine e_thenr ?_ | refine e_blkr ?_ | refine e_blkx ?_ | refine e_blky rfl ?_)
        | (refine x_g ?_; first
      | (refine x_gd rfl ?_; first | refine x_gd1 rfl rfl zTr ?_ | (refine x_gd0 rfl rfl rfl zTr ?hp ?_; (case hp => exact rfl)))
      | (refine x_k 0 rfl ?_; (refine x_val rfl rfl rfl (r_move rfl rfl) ?hp ?_; (case hp => exact rfl)))
      | (refine x_k 23 rfl ?_; first | (refine x_val rfl rfl rfl (r_field tb rfl rfl rfl) ?hp ?_; (case hp => exact rfl)) | (refine x_val rfl rfl rfl (r_fieldS tb rfl rfl rfl) ?hp ?_; (case hp => exact rfl)))
      | (refine x_k 8 rfl ?_; first | (refine x_val rfl rfl rfl (r_ldS tb rfl hS rfl hx' rfl) ?hp ?_; (case hp => exact rfl)) | (refine x_val rfl rfl rfl (r_ldS tb rfl hS rfl hq' rfl) ?hp ?_; (case hp => exact rfl)) | (refine' x_val rfl rfl rfl (r_ldv rfl rfl ?qm ?qv) ?hp ?_; (case qm => (exact zMm)); (case qv => (first | exact ldvL tb rfl rfl | exact ldv1 tb rfl (by assumption) | exact ldvW tb rfl rfl | exact ldvW tb rfl (by assumption) | exact ldvW tb rfl (Pv.size (by assumption)) | exact ldvN tb rfl ext2_0 rfl | exact ldvN tb rfl ext2_2 rfl)); (case hp => exact rfl)) | (refine' x_val rfl rfl rfl (r_ldo rfl rfl ?qw (by simp) ?qv) ?hp ?_; (case qw => assumption); (case qv => (first | exact ldvL tb rfl rfl | exact ldv1 tb rfl (by assumption) | exact ldvW tb rfl rfl | exact ldvW tb rfl (by assumption) | exact ldvW tb rfl (Pv.size (by assumption)) | exact ldvN tb rfl ext2_0 rfl | exact ldvN tb rfl ext2_2 rfl)); (case hp => exact rfl)))
      | (refine x_k 1 rfl ?_; (refine x_val rfl rfl rfl (r_assign rfl rfl) ?hp ?_; (case hp => exact rfl)))
      | (refine x_k 13 rfl ?_; first | (refine x_val rfl rfl rfl (r_sub rfl rfl rfl hj1) ?hp ?_; (case hp => exact rfl)) | (refine x_val rfl rfl rfl (r_lss rfl rfl rfl) ?hp ?_; (case hp => exact rfl)) | (refine x_val rfl rfl rfl (r_eql rfl rfl rfl) ?hp ?_; (case hp => exact rfl)) | (refine x_val rfl rfl rfl (r_neq rfl rfl rfl) ?hp ?_; (case hp => exact rfl)) | (refine x_val rfl rfl rfl (r_add rfl rfl rfl (wrap_in (by simp only [lo, hi]; omega))) ?hp ?_; (case hp => exact rfl)) | (refine x_val rfl rfl rfl (r_sub rfl rfl rfl (wrap_in (by simp only [lo, hi]; omega))) ?hp ?_; (case hp => exact rfl)) | (refine x_val rfl rfl rfl (r_leq rfl rfl rfl) ?hp ?_; (case hp => exact rfl)))
      | (refine x_k 2 rfl ?_; first | (refine x_val rfl rfl rfl (r_pick1 rfl rfl zTr rfl) ?hp ?_; (case hp => exact rfl)) | (refine x_val rfl rfl rfl (r_pick0 rfl rfl zTr rfl) ?hp ?_; (case hp => exact rfl)))
      | (refine x_k 25 rfl ?_; first | (refine x_val rfl rfl rfl (r_ixS tb rfl hS rfl rfl rfl (by simp) hltx) ?hp ?_; (case hp => exact rfl)) | (refine x_val rfl rfl rfl (r_ixS tb rfl hS rfl rfl rfl (by simp) hltq) ?hp ?_; (case hp => exact rfl)) | (refine x_val rfl rfl rfl (r_ixN tb rfl rfl rfl rfl (by omega)) ?hp ?_; (case hp => exact rfl)) | (refine x_val rfl rfl rfl (r_ixA tb rfl rfl rfl rfl (by omega) (by omega)) ?hp ?_; (case hp => exact rfl)) | (refine x_val rfl rfl rfl (r_ixO tb rfl rfl rfl rfl (by omega)) ?hp ?_; (case hp => exact rfl)))
      | (refine x_k 4 rfl ?_; (refine x_boxA rfl rfl rfl rfl rfl ?hp (fun blk => ?_); (case hp => exact rfl)))
      | (refine x_k 9 rfl ?_; first | (refine' x_putA0 tb rfl rfl rfl rfl (by first | rfl | assumption | (apply Pv.size; assumption)) ?qs (by first | rfl | assumption | (apply Pv.size; assumption)) rfl rfl ?hp ?_; (case qs => (first | exact zSet)); (case hp => exact rfl)) | (refine' x_putA1 tb rfl rfl rfl rfl (by first | rfl | assumption | (apply Pv.size; assumption)) ?qs (by first | rfl | assumption | (apply Pv.size; assumption)) rfl rfl ?hp ?_; (case qs => (first | exact zSet)); (case hp => exact rfl)) | (refine' x_putA2 tb rfl rfl rfl rfl (by first | rfl | assumption | (apply Pv.size; assumption)) ?qs (by first | rfl | assumption | (apply Pv.size; assumption)) rfl rfl ?hp ?_; (case qs => (first | exact zSet)); (case hp => exact rfl)))
      | (refine x_k 3 rfl ?_; (refine x_allocA (t := 88) rfl zImplSpot rfl rfl rfl ?hp (fun blk => ?_); (case hp => exact rfl)))
      | (refine x_k 36 rfl ?_; (refine x_val rfl rfl rfl (r_len tb rfl rfl rfl) ?hp ?_; (case hp => exact rfl)))
      | refine x_nil0 ?_
      | refine x_nil ?_)
        | (refine' c_drawX (id := 5) [(Sum.inl _ : Calm.Plan), (Sum.inl _ : Calm.Plan), (Sum.inl _ : Calm.Plan), (Sum.inl _ : Calm.Plan), (Sum.inl _ : Calm.Plan), (Sum.inl _ : Calm.Plan), (Sum.inl _ : Calm.Plan), (Sum.inl _ : Calm.Plan), (Sum.inl _ : Calm.Plan), (Sum.inr (false, _, _) : Calm.Plan), (Sum.inr (false, _, _) : Calm.Plan), (Sum.inr (true, _, _) : Calm.Plan), (Sum.inr (true, _, _) : Calm.Plan)] (by kernel_rfl) (by kernel_rfl) (by kernel_rfl) ?_)
        | (refine e_drop0 (e_drop0 (e_round (k + 1) (by omega) (.inr hlt) ?_ rfl)); exact sub_cons rfl (sub_cons' rfl (by rw [hsum]) (by repeat' (first | exact sub_nil | refine sub_cons rfl ?_)))))
  · have hkl : k = l.length - 1 := by omega
    subst hkl
    repeat' (first
      | (refine s_g ?_; first
      | (refine s_gd rfl ?_; first | refine s_gd1 rfl rfl zTr ?_ | refine s_gd0 rfl rfl rfl zTr ?_ | refine s_gd00 rfl rfl zTr ?_ | refine s_gp1 rfl rfl rfl (fun hc => ?_) (fun hc => ?_) | refine s_gp0 rfl rfl rfl (fun hc => ?_) (fun hc => ?_) | refine s_gnp1 rfl rfl rfl (fun hc => ?_) (fun hc => ?_) | refine s_gnp0 rfl rfl rfl (fun hc => ?_) (fun hc => ?_) | refine s_gb1 rfl rfl rfl (fun hc => ?_) (fun hc => ?_) | refine s_gb0 rfl rfl rfl (fun hc => ?_) (fun hc => ?_) | refine s_gnb1 rfl rfl rfl (fun hc => ?_) (fun hc => ?_) | refine s_gnb0 rfl rfl rfl (fun hc => ?_) (fun hc => ?_))
      | (refine s_k 0 rfl ?_; refine s_val rfl rfl rfl (r_move rfl rfl) ?_)
      | (refine s_k 23 rfl ?_; first | refine s_val rfl rfl rfl (r_field tb rfl rfl rfl) ?_ | refine s_val rfl rfl rfl (r_fieldS tb rfl rfl rfl) ?_)
      | (refine s_k 8 rfl ?_; first | (refine' s_val rfl rfl rfl (r_ldv rfl rfl ?qm ?qv) ?_; (case qm => (exact zMm)); (case qv => (first | exact ldvL tb rfl rfl | exact ldv1 tb rfl (by assumption) | exact ldvW tb rfl rfl | exact ldvW tb rfl (by assumption) | exact ldvW tb rfl (Pv.size (by assumption)) | exact ldvN tb rfl ext2_0 rfl | exact ldvN tb rfl ext2_2 rfl))) | (refine' s_val rfl rfl rfl (r_ldo rfl rfl ?qw (by simp) ?qv) ?_; (case qw => assumption); (case qv => (first | exact ldvL tb rfl rfl | exact ldv1 tb rfl (by assumption) | exact ldvW tb rfl rfl | exact ldvW tb rfl (by assumption) | exact ldvW tb rfl (Pv.size (by assumption)) | exact ldvN tb rfl ext2_0 rfl | exact ldvN tb rfl ext2_2 rfl))))
      | (refine s_k 1 rfl ?_; refine s_val rfl rfl rfl (r_assign rfl rfl) ?_)
      | (refine s_k 13 rfl ?_; first | refine s_val rfl rfl rfl (r_lss rfl rfl rfl) ?_ | refine s_val rfl rfl rfl (r_eql rfl rfl rfl) ?_ | refine s_val rfl rfl rfl (r_neq rfl rfl rfl) ?_ | refine s_val rfl rfl rfl (r_add rfl rfl rfl (wrap_in (by simp only [lo, hi]; omega))) ?_ | refine s_val rfl rfl rfl (r_sub rfl rfl rfl (wrap_in (by simp only [lo, hi]; omega))) ?_ | refine s_val rfl rfl rfl (r_leq rfl rfl rfl) ?_)
      | (refine s_k 2 rfl ?_; first | refine s_val rfl rfl rfl (r_pick1 rfl rfl zTr rfl) ?_ | refine s_val rfl rfl rfl (r_pick0 rfl rfl zTr rfl) ?_)
      | (refine s_k 25 rfl ?_; first | refine s_val rfl rfl rfl (r_ixN tb rfl rfl rfl rfl (by omega)) ?_ | refine s_val rfl rfl rfl (r_ixA tb rfl rfl rfl rfl (by omega) (by omega)) ?_ | refine s_val rfl rfl rfl (r_ixO tb rfl rfl rfl rfl (by omega)) ?_)
      | (refine s_k 4 rfl ?_; first | refine s_boxA rfl rfl rfl rfl rfl fun blk => ?_ | refine s_box1 rfl rfl rfl rfl rfl rfl fun blk => ?_)
      | (refine s_k 9 rfl ?_; (first | refine s_st1 tb rfl rfl rfl rfl rfl rfl rfl rfl ?_ | refine s_stA tb rfl rfl rfl rfl (by first | rfl | assumption | (apply Pv.size; assumption)) rfl rfl ?_); (first | refine' st0 ?qs ?_ | refine' st1 ?qs ?_ | refine' st2 ?qs ?_ | refine' st3 ?qs ?_ | refine' st4 ?qs ?_ | refine' st5 ?qs ?_ | refine' st6 ?qs ?_ | refine' st7 ?qs ?_ | refine' st8 ?qs ?_ | refine' st9 ?qs ?_ | refine' st10 ?qs ?_ | refine' st11 ?qs ?_); (case qs => (first | exact zSet)))
      | (refine s_k 36 rfl ?_; refine s_val rfl rfl rfl (r_len tb rfl rfl rfl) ?_)
      | refine s_nil ?_)
      | (refine c_g ?_; first | refine c_seq ?_ | refine c_region ?_ | (refine c_gc ?_; first | refine c_cond1 rfl zTr ?_ | refine c_cond0 rfl zTr ?_ | refine z_condd1 rfl ?_ | refine z_condd0 rfl ?_ | refine z_conddn1 rfl ?_ | refine z_conddn0 rfl ?_ | refine c_condd rfl (fun hc => ?_) (fun hc => ?_) | refine c_conddn rfl (fun hc => ?_) (fun hc => ?_) | refine c_condn rfl (fun hc => ?_) (fun hc => ?_) | refine c_cond rfl (fun hc => ?_) (fun hc => ?_)) | refine c_block ?_ | refine c_skip ?_ | refine c_exit ?_ | refine c_ret ?_)
      | (refine e_g ?_; first | refine e_then ?_ | refine e_blkn ?_ | refine e_thenx ?_ | refine e_thenr ?_ | refine e_blkr ?_ | refine e_blkx ?_ | refine e_blky rfl ?_)
      | (refine e_ret1 (by simp) rfl (re_tmp rfl) fun w hL => ⟨rfl, hL.toBelow⟩))
set_option maxRecDepth 100000 in
set_option maxHeartbeats 1600000 in
theorem specWinds_any (o : Sp) (l : List Sp) (A : Option Addr) (cap : Nat) (w : World) (ho : inR o) (hS : SlA [] w 2 A (l.map Sp.cells)) (hn : l.length ≤ 1048576) (hok : ∀ s ∈ l, s.ok) (hnr : ∀ k a b, l[k]? = some a → l[k + 1]? = some b → b.x = a.x ∨ b.y = a.y) :
    Calls Try.prog 163 #[.agg #[.int .i8 o.x, .int .i8 o.y], .slice A l.length cap] w fun e w' => e = .returned (.int .i64 (wsum (wdB o) l (l.length - 1))) ∧ Below w.heap.size w w' := by
  have hox : 0 ≤ o.x ∧ o.x < 10 := ⟨ho.1, ho.2.1⟩
  have hoy : 0 ≤ o.y ∧ o.y < 10 := ho.2.2
  refine enter2 Try.func163 rfl rfl rfl (Own.start w) ?_
  repeat' (first
    | (refine s_g ?_; first
      | (refine s_gd rfl ?_; first | refine s_gd1 rfl rfl zTr ?_ | refine s_gd0 rfl rfl rfl zTr ?_ | refine s_gd00 rfl rfl zTr ?_ | refine s_gp1 rfl rfl rfl (fun hc => ?_) (fun hc => ?_) | refine s_gp0 rfl rfl rfl (fun hc => ?_) (fun hc => ?_) | refine s_gnp1 rfl rfl rfl (fun hc => ?_) (fun hc => ?_) | refine s_gnp0 rfl rfl rfl (fun hc => ?_) (fun hc => ?_) | refine s_gb1 rfl rfl rfl (fun hc => ?_) (fun hc => ?_) | refine s_gb0 rfl rfl rfl (fun hc => ?_) (fun hc => ?_) | refine s_gnb1 rfl rfl rfl (fun hc => ?_) (fun hc => ?_) | refine s_gnb0 rfl rfl rfl (fun hc => ?_) (fun hc => ?_))
      | (refine s_k 0 rfl ?_; refine s_val rfl rfl rfl (r_move rfl rfl) ?_)
      | (refine s_k 23 rfl ?_; first | refine s_val rfl rfl rfl (r_field tb rfl rfl rfl) ?_ | refine s_val rfl rfl rfl (r_fieldS tb rfl rfl rfl) ?_)
      | (refine s_k 8 rfl ?_; first | (refine' s_val rfl rfl rfl (r_ldv rfl rfl ?qm ?qv) ?_; (case qm => (exact zMm)); (case qv => (first | exact ldvL tb rfl rfl | exact ldv1 tb rfl (by assumption) | exact ldvW tb rfl rfl | exact ldvW tb rfl (by assumption) | exact ldvW tb rfl (Pv.size (by assumption)) | exact ldvN tb rfl ext2_0 rfl | exact ldvN tb rfl ext2_2 rfl))) | (refine' s_val rfl rfl rfl (r_ldo rfl rfl ?qw (by simp) ?qv) ?_; (case qw => assumption); (case qv => (first | exact ldvL tb rfl rfl | exact ldv1 tb rfl (by assumption) | exact ldvW tb rfl rfl | exact ldvW tb rfl (by assumption) | exact ldvW tb rfl (Pv.size (by assumption)) | exact ldvN tb rfl ext2_0 rfl | exact ldvN tb rfl ext2_2 rfl))))
      | (refine s_k 1 rfl ?_; refine s_val rfl rfl rfl (r_assign rfl rfl) ?_)
      | (refine s_k 13 rfl ?_; first | refine s_val rfl rfl rfl (r_lss rfl rfl rfl) ?_ | refine s_val rfl rfl rfl (r_eql rfl rfl rfl) ?_ | refine s_val rfl rfl rfl (r_add rfl rfl rfl (wrap_in (by simp only [lo, hi]; omega))) ?_ | refine s_val rfl rfl rfl (r_sub rfl rfl rfl (wrap_in (by simp only [lo, hi]; omega))) ?_ | refine s_val rfl rfl rfl (r_leq rfl rfl rfl) ?_)
      | (refine s_k 2 rfl ?_; first | refine s_val rfl rfl rfl (r_pick1 rfl rfl zTr rfl) ?_ | refine s_val rfl rfl rfl (r_pick0 rfl rfl zTr rfl) ?_)
      | (refine s_k 25 rfl ?_; first | refine s_val rfl rfl rfl (r_ixN tb rfl rfl rfl rfl (by omega)) ?_ | refine s_val rfl rfl rfl (r_ixA tb rfl rfl rfl rfl (by omega) (by omega)) ?_ | refine s_val rfl rfl rfl (r_ixO tb rfl rfl rfl rfl (by omega)) ?_)
      | (refine s_k 4 rfl ?_; first | refine s_boxA rfl rfl rfl rfl rfl fun blk => ?_ | refine s_box1 rfl rfl rfl rfl rfl rfl fun blk => ?_)
      | (refine s_k 9 rfl ?_; (first | refine s_st1 tb rfl rfl rfl rfl rfl rfl rfl rfl ?_ | refine s_stA tb rfl rfl rfl rfl (by first | rfl | assumption | (apply Pv.size; assumption)) rfl rfl ?_); (first | refine' st0 ?qs ?_ | refine' st1 ?qs ?_ | refine' st2 ?qs ?_ | refine' st3 ?qs ?_ | refine' st4 ?qs ?_ | refine' st5 ?qs ?_ | refine' st6 ?qs ?_ | refine' st7 ?qs ?_ | refine' st8 ?qs ?_ | refine' st9 ?qs ?_ | refine' st10 ?qs ?_ | refine' st11 ?qs ?_); (case qs => (first | exact zSet)))
      | (refine s_k 36 rfl ?_; refine s_val rfl rfl rfl (r_len tb rfl rfl rfl) ?_)
      | refine s_nil ?_)
    | (refine c_g ?_; first | refine c_seq ?_ | refine c_region ?_ | (refine c_gc ?_; first | refine c_cond1 rfl zTr ?_ | refine c_cond0 rfl zTr ?_ | refine z_condd1 rfl ?_ | refine z_condd0 rfl ?_ | refine z_conddn1 rfl ?_ | refine z_conddn0 rfl ?_ | refine c_condd rfl (fun hc => ?_) (fun hc => ?_) | refine c_conddn rfl (fun hc => ?_) (fun hc => ?_) | refine c_condn rfl (fun hc => ?_) (fun hc => ?_) | refine c_cond rfl (fun hc => ?_) (fun hc => ?_)) | refine c_block ?_ | refine c_skip ?_ | refine c_exit ?_ | refine c_ret ?_)
    | (refine e_g ?_; first | refine e_then ?_ | refine e_blkn ?_ | refine e_thenx ?_ | refine e_thenr ?_ | refine e_blkr ?_ | refine e_blkx ?_ | refine e_blky rfl ?_))
  refine c_loop (ι := Nat) (fun k => l.length - k) (fun k => k = 0 ∨ k < l.length) (fun k => [(6, .int .i64 ((k + 1 : Nat) : Int)), (5, .int .i64 (wsum (wdB o) l k)), (1, .slice A l.length cap), (2, .pointer (some ⟨blk, 0, none⟩))]) (fun k => [(blk, 88, #[.int .i8 o.x, .int .i8 o.y])]) 0 (.inl rfl) ?hs rfl ?_
  case hs => (repeat' (first | exact sub_nil | refine sub_cons rfl ?_))
  rintro k hk
  by_cases hlt : k + 1 < l.length
  · have hx : l[k + 1]? = some l[k + 1] := List.getElem?_eq_getElem hlt
    have hq : l[k]? = some l[k] := List.getElem?_eq_getElem (by omega)
    have hb := hok _ (List.getElem_mem hlt)
    have ha := hok l[k] (List.getElem_mem (by omega))
    have hnear := hnr k _ _ hq hx
    have hx' : (l.map Sp.cells)[k + 1]? = some l[k + 1].cells := by simp [hx]
    have hq' : (l.map Sp.cells)[k]? = some l[k].cells := by simp [hq]
    have hltx : k + 1 < (l.map Sp.cells).length := by simpa using hlt
    have hltq : k < (l.map Sp.cells).length := by simp; omega
    have hj1 : IntKind.i64.wrap (((k + 1 : Nat) : Int) - 1) = (k : Int) := by rw [show ((k + 1 : Nat) : Int) - 1 = (k : Int) by omega]; exact wrap_in (by simp only [lo, hi]; omega)
    have hsum := wsum_succ (f := wdB o) hq hx
    have hle := wsum_le o l k
    generalize l[k + 1] = b at *
    generalize l[k] = a at *
    have hd1 : (k : Int) ≤ 1048576 := by omega
    by_cases h1 : a.x ≤ o.x
    · have hw : wdB o a b = 0 := by unfold wdB; rw [if_neg (by omega)]
      rw [hw, Int.add_zero] at hsum
      repeat' (first
        | (refine s_g ?_; first
      | (refine s_gd rfl ?_; first | refine s_gd1 rfl rfl zTr ?_ | refine s_gd0 rfl rfl rfl zTr ?_ | refine s_gd00 rfl rfl zTr ?_ | refine s_gp1 rfl rfl rfl (fun hc => ?_) (fun hc => ?_) | refine s_gp0 rfl rfl rfl (fun hc => ?_) (fun hc => ?_) | refine s_gnp1 rfl rfl rfl (fun hc => ?_) (fun hc => ?_) | refine s_gnp0 rfl rfl rfl (fun hc => ?_) (fun hc => ?_) | refine s_gb1 rfl rfl rfl (fun hc => ?_) (fun hc => ?_) | refine s_gb0 rfl rfl rfl (fun hc => ?_) (fun hc => ?_) | refine s_gnb1 rfl rfl rfl (fun hc => ?_) (fun hc => ?_) | refine s_gnb0 rfl rfl rfl (fun hc => ?_) (fun hc => ?_))
      | (refine s_k 0 rfl ?_; refine s_val rfl rfl rfl (r_move rfl rfl) ?_)
      | (refine s_k 23 rfl ?_; first | refine s_val rfl rfl rfl (r_field tb rfl rfl rfl) ?_ | refine s_val rfl rfl rfl (r_fieldS tb rfl rfl rfl) ?_)
      | (refine s_k 8 rfl ?_; first | refine s_val rfl rfl rfl (r_ldS tb rfl hS rfl hx' rfl) ?_ | refine s_val rfl rfl rfl (r_ldS tb rfl hS rfl hq' rfl) ?_ | (refine' s_val rfl rfl rfl (r_ldv rfl rfl ?qm ?qv) ?_; (case qm => (exact zMm)); (case qv => (first | exact ldvL tb rfl rfl | exact ldv1 tb rfl (by assumption) | exact ldvW tb rfl rfl | exact ldvW tb rfl (by assumption) | exact ldvW tb rfl (Pv.size (by assumption)) | exact ldvN tb rfl ext2_0 rfl | exact ldvN tb rfl ext2_2 rfl))) | (refine' s_val rfl rfl rfl (r_ldo rfl rfl ?qw (by simp) ?qv) ?_; (case qw => assumption); (case qv => (first | exact ldvL tb rfl rfl | exact ldv1 tb rfl (by assumption) | exact ldvW tb rfl rfl | exact ldvW tb rfl (by assumption) | exact ldvW tb rfl (Pv.size (by assumption)) | exact ldvN tb rfl ext2_0 rfl | exact ldvN tb rfl ext2_2 rfl))))
      | (refine s_k 1 rfl ?_; refine s_val rfl rfl rfl (r_assign rfl rfl) ?_)
      | (refine s_k 13 rfl ?_; first | refine s_val rfl rfl rfl (r_sub rfl rfl rfl hj1) ?_ | refine s_val rfl rfl rfl (r_lss rfl rfl rfl) ?_ | refine s_val rfl rfl rfl (r_eql rfl rfl rfl) ?_ | refine s_val rfl rfl rfl (r_add rfl rfl rfl (wrap_in (by simp only [lo, hi]; omega))) ?_ | refine s_val rfl rfl rfl (r_sub rfl rfl rfl (wrap_in (by simp only [lo, hi]; omega))) ?_ | refine s_val rfl rfl rfl (r_leq rfl rfl rfl) ?_)
      | (refine s_k 2 rfl ?_; first | refine s_val rfl rfl rfl (r_pick1 rfl rfl zTr rfl) ?_ | refine s_val rfl rfl rfl (r_pick0 rfl rfl zTr rfl) ?_)
      | (refine s_k 25 rfl ?_; first | refine s_val rfl rfl rfl (r_ixS tb rfl hS rfl rfl rfl (by simp) hltx) ?_ | refine s_val rfl rfl rfl (r_ixS tb rfl hS rfl rfl rfl (by simp) hltq) ?_ | refine s_val rfl rfl rfl (r_ixN tb rfl rfl rfl rfl (by omega)) ?_ | refine s_val rfl rfl rfl (r_ixA tb rfl rfl rfl rfl (by omega) (by omega)) ?_ | refine s_val rfl rfl rfl (r_ixO tb rfl rfl rfl rfl (by omega)) ?_)
      | (refine s_k 4 rfl ?_; first | refine s_boxA rfl rfl rfl rfl rfl fun blk => ?_ | refine s_box1 rfl rfl rfl rfl rfl rfl fun blk => ?_)
      | (refine s_k 9 rfl ?_; (first | refine s_st1 tb rfl rfl rfl rfl rfl rfl rfl rfl ?_ | refine s_stA tb rfl rfl rfl rfl (by first | rfl | assumption | (apply Pv.size; assumption)) rfl rfl ?_); (first | refine' st0 ?qs ?_ | refine' st1 ?qs ?_ | refine' st2 ?qs ?_ | refine' st3 ?qs ?_ | refine' st4 ?qs ?_ | refine' st5 ?qs ?_ | refine' st6 ?qs ?_ | refine' st7 ?qs ?_ | refine' st8 ?qs ?_ | refine' st9 ?qs ?_ | refine' st10 ?qs ?_ | refine' st11 ?qs ?_); (case qs => (first | exact zSet)))
      | (refine s_k 3 rfl ?_; refine s_allocA (t := 88) rfl zImplSpot rfl rfl rfl fun blk => ?_)
      | (refine s_k 36 rfl ?_; refine s_val rfl rfl rfl (r_len tb rfl rfl rfl) ?_)
      | refine s_nil ?_)
        | (refine c_g ?_; first | refine c_seq ?_ | refine c_region ?_ | (refine c_gc ?_; first | refine c_cond1 rfl zTr ?_ | refine c_cond0 rfl zTr ?_ | refine z_condd1 rfl ?_ | refine z_condd0 rfl ?_ | refine z_conddn1 rfl ?_ | refine z_conddn0 rfl ?_ | refine c_condd rfl (fun hc => ?_) (fun hc => ?_) | refine c_conddn rfl (fun hc => ?_) (fun hc => ?_) | refine c_condn rfl (fun hc => ?_) (fun hc => ?_) | refine c_cond rfl (fun hc => ?_) (fun hc => ?_)) | refine c_block ?_ | refine c_skip ?_ | refine c_exit ?_ | refine c_ret ?_)
        | (refine e_g ?_; first | refine e_then ?_ | refine e_blkn ?_ | refine e_thenx ?_ | refine e_thenr ?_ | refine e_blkr ?_ | refine e_blkx ?_ | refine e_blky rfl ?_)
        | (refine e_drop0 (e_drop0 (e_round (k + 1) (by omega) (.inr hlt) ?_ rfl)); exact sub_cons rfl (sub_cons' rfl (by rw [hsum]) (by repeat' (first | exact sub_nil | refine sub_cons rfl ?_)))))
    · by_cases h2 : b.x ≤ o.x
      · have hw : wdB o a b = 0 := by unfold wdB; rw [if_neg (by omega)]
        rw [hw, Int.add_zero] at hsum
        repeat' (first
          | (refine s_g ?_; first
      | (refine s_gd rfl ?_; first | refine s_gd1 rfl rfl zTr ?_ | refine s_gd0 rfl rfl rfl zTr ?_ | refine s_gd00 rfl rfl zTr ?_ | refine s_gp1 rfl rfl rfl (fun hc => ?_) (fun hc => ?_) | refine s_gp0 rfl rfl rfl (fun hc => ?_) (fun hc => ?_) | refine s_gnp1 rfl rfl rfl (fun hc => ?_) (fun hc => ?_) | refine s_gnp0 rfl rfl rfl (fun hc => ?_) (fun hc => ?_) | refine s_gb1 rfl rfl rfl (fun hc => ?_) (fun hc => ?_) | refine s_gb0 rfl rfl rfl (fun hc => ?_) (fun hc => ?_) | refine s_gnb1 rfl rfl rfl (fun hc => ?_) (fun hc => ?_) | refine s_gnb0 rfl rfl rfl (fun hc => ?_) (fun hc => ?_))
      | (refine s_k 0 rfl ?_; refine s_val rfl rfl rfl (r_move rfl rfl) ?_)
      | (refine s_k 23 rfl ?_; first | refine s_val rfl rfl rfl (r_field tb rfl rfl rfl) ?_ | refine s_val rfl rfl rfl (r_fieldS tb rfl rfl rfl) ?_)
      | (refine s_k 8 rfl ?_; first | refine s_val rfl rfl rfl (r_ldS tb rfl hS rfl hx' rfl) ?_ | refine s_val rfl rfl rfl (r_ldS tb rfl hS rfl hq' rfl) ?_ | (refine' s_val rfl rfl rfl (r_ldv rfl rfl ?qm ?qv) ?_; (case qm => (exact zMm)); (case qv => (first | exact ldvL tb rfl rfl | exact ldv1 tb rfl (by assumption) | exact ldvW tb rfl rfl | exact ldvW tb rfl (by assumption) | exact ldvW tb rfl (Pv.size (by assumption)) | exact ldvN tb rfl ext2_0 rfl | exact ldvN tb rfl ext2_2 rfl))) | (refine' s_val rfl rfl rfl (r_ldo rfl rfl ?qw (by simp) ?qv) ?_; (case qw => assumption); (case qv => (first | exact ldvL tb rfl rfl | exact ldv1 tb rfl (by assumption) | exact ldvW tb rfl rfl | exact ldvW tb rfl (by assumption) | exact ldvW tb rfl (Pv.size (by assumption)) | exact ldvN tb rfl ext2_0 rfl | exact ldvN tb rfl ext2_2 rfl))))
      | (refine s_k 1 rfl ?_; refine s_val rfl rfl rfl (r_assign rfl rfl) ?_)
      | (refine s_k 13 rfl ?_; first | refine s_val rfl rfl rfl (r_sub rfl rfl rfl hj1) ?_ | refine s_val rfl rfl rfl (r_lss rfl rfl rfl) ?_ | refine s_val rfl rfl rfl (r_eql rfl rfl rfl) ?_ | refine s_val rfl rfl rfl (r_add rfl rfl rfl (wrap_in (by simp only [lo, hi]; omega))) ?_ | refine s_val rfl rfl rfl (r_sub rfl rfl rfl (wrap_in (by simp only [lo, hi]; omega))) ?_ | refine s_val rfl rfl rfl (r_leq rfl rfl rfl) ?_)
      | (refine s_k 2 rfl ?_; first | refine s_val rfl rfl rfl (r_pick1 rfl rfl zTr rfl) ?_ | refine s_val rfl rfl rfl (r_pick0 rfl rfl zTr rfl) ?_)
      | (refine s_k 25 rfl ?_; first | refine s_val rfl rfl rfl (r_ixS tb rfl hS rfl rfl rfl (by simp) hltx) ?_ | refine s_val rfl rfl rfl (r_ixS tb rfl hS rfl rfl rfl (by simp) hltq) ?_ | refine s_val rfl rfl rfl (r_ixN tb rfl rfl rfl rfl (by omega)) ?_ | refine s_val rfl rfl rfl (r_ixA tb rfl rfl rfl rfl (by omega) (by omega)) ?_ | refine s_val rfl rfl rfl (r_ixO tb rfl rfl rfl rfl (by omega)) ?_)
      | (refine s_k 4 rfl ?_; first | refine s_boxA rfl rfl rfl rfl rfl fun blk => ?_ | refine s_box1 rfl rfl rfl rfl rfl rfl fun blk => ?_)
      | (refine s_k 9 rfl ?_; (first | refine s_st1 tb rfl rfl rfl rfl rfl rfl rfl rfl ?_ | refine s_stA tb rfl rfl rfl rfl (by first | rfl | assumption | (apply Pv.size; assumption)) rfl rfl ?_); (first | refine' st0 ?qs ?_ | refine' st1 ?qs ?_ | refine' st2 ?qs ?_ | refine' st3 ?qs ?_ | refine' st4 ?qs ?_ | refine' st5 ?qs ?_ | refine' st6 ?qs ?_ | refine' st7 ?qs ?_ | refine' st8 ?qs ?_ | refine' st9 ?qs ?_ | refine' st10 ?qs ?_ | refine' st11 ?qs ?_); (case qs => (first | exact zSet)))
      | (refine s_k 3 rfl ?_; refine s_allocA (t := 88) rfl zImplSpot rfl rfl rfl fun blk => ?_)
      | (refine s_k 36 rfl ?_; refine s_val rfl rfl rfl (r_len tb rfl rfl rfl) ?_)
      | refine s_nil ?_)
          | (refine c_g ?_; first | refine c_seq ?_ | refine c_region ?_ | (refine c_gc ?_; first | refine c_cond1 rfl zTr ?_ | refine c_cond0 rfl zTr ?_ | refine z_condd1 rfl ?_ | refine z_condd0 rfl ?_ | refine z_conddn1 rfl ?_ | refine z_conddn0 rfl ?_ | refine c_condd rfl (fun hc => ?_) (fun hc => ?_) | refine c_conddn rfl (fun hc => ?_) (fun hc => ?_) | refine c_condn rfl (fun hc => ?_) (fun hc => ?_) | refine c_cond rfl (fun hc => ?_) (fun hc => ?_)) | refine c_block ?_ | refine c_skip ?_ | refine c_exit ?_ | refine c_ret ?_)
          | (refine e_g ?_; first | refine e_then ?_ | refine e_blkn ?_ | refine e_thenx ?_ | refine e_thenr ?_ | refine e_blkr ?_ | refine e_blkx ?_ | refine e_blky rfl ?_)
          | (refine e_drop0 (e_drop0 (e_round (k + 1) (by omega) (.inr hlt) ?_ rfl)); exact sub_cons rfl (sub_cons' rfl (by rw [hsum]) (by repeat' (first | exact sub_nil | refine sub_cons rfl ?_)))))
      · have hc : (a.y = o.y ∧ b.y = o.y + 1 ∧ ¬ a.y = o.y + 1 ∧ wdB o a b = 1) ∨ (a.y = o.y ∧ ¬ b.y = o.y + 1 ∧ ¬ a.y = o.y + 1 ∧ wdB o a b = 0) ∨ (¬ a.y = o.y ∧ a.y = o.y + 1 ∧ b.y = o.y ∧ wdB o a b = -1) ∨ (¬ a.y = o.y ∧ a.y = o.y + 1 ∧ ¬ b.y = o.y ∧ wdB o a b = 0) ∨ (¬ a.y = o.y ∧ ¬ a.y = o.y + 1 ∧ wdB o a b = 0) := by
          unfold wdB
          repeat' split
          all_goals omega
        rcases hc with ⟨g1, g2, g3, hw⟩ | ⟨g1, g2, g3, hw⟩ | ⟨g1, g2, g3, hw⟩ | ⟨g1, g2, g3, hw⟩ | ⟨g1, g2, hw⟩
        all_goals
          rw [hw] at hsum
          repeat' (first
            | (refine s_g ?_; first
      | (refine s_gd rfl ?_; first | refine s_gd1 rfl rfl zTr ?_ | refine s_gd0 rfl rfl rfl zTr ?_ | refine s_gd00 rfl rfl zTr ?_ | refine s_gp1 rfl rfl rfl (fun hc => ?_) (fun hc => ?_) | refine s_gp0 rfl rfl rfl (fun hc => ?_) (fun hc => ?_) | refine s_gnp1 rfl rfl rfl (fun hc => ?_) (fun hc => ?_) | refine s_gnp0 rfl rfl rfl (fun hc => ?_) (fun hc => ?_) | refine s_gb1 rfl rfl rfl (fun hc => ?_) (fun hc => ?_) | refine s_gb0 rfl rfl rfl (fun hc => ?_) (fun hc => ?_) | refine s_gnb1 rfl rfl rfl (fun hc => ?_) (fun hc => ?_) | refine s_gnb0 rfl rfl rfl (fun hc => ?_) (fun hc => ?_))
      | (refine s_k 0 rfl ?_; refine s_val rfl rfl rfl (r_move rfl rfl) ?_)
      | (refine s_k 23 rfl ?_; first | refine s_val rfl rfl rfl (r_field tb rfl rfl rfl) ?_ | refine s_val rfl rfl rfl (r_fieldS tb rfl rfl rfl) ?_)
      | (refine s_k 8 rfl ?_; first | refine s_val rfl rfl rfl (r_ldS tb rfl hS rfl hx' rfl) ?_ | refine s_val rfl rfl rfl (r_ldS tb rfl hS rfl hq' rfl) ?_ | (refine' s_val rfl rfl rfl (r_ldv rfl rfl ?qm ?qv) ?_; (case qm => (exact zMm)); (case qv => (first | exact ldvL tb rfl rfl | exact ldv1 tb rfl (by assumption) | exact ldvW tb rfl rfl | exact ldvW tb rfl (by assumption) | exact ldvW tb rfl (Pv.size (by assumption)) | exact ldvN tb rfl ext2_0 rfl | exact ldvN tb rfl ext2_2 rfl))) | (refine' s_val rfl rfl rfl (r_ldo rfl rfl ?qw (by simp) ?qv) ?_; (case qw => assumption); (case qv => (first | exact ldvL tb rfl rfl | exact ldv1 tb rfl (by assumption) | exact ldvW tb rfl rfl | exact ldvW tb rfl (by assumption) | exact ldvW tb rfl (Pv.size (by assumption)) | exact ldvN tb rfl ext2_0 rfl | exact ldvN tb rfl ext2_2 rfl))))
      | (refine s_k 1 rfl ?_; refine s_val rfl rfl rfl (r_assign rfl rfl) ?_)
      | (refine s_k 13 rfl ?_; first | refine s_val rfl rfl rfl (r_sub rfl rfl rfl hj1) ?_ | refine s_val rfl rfl rfl (r_lss rfl rfl rfl) ?_ | refine s_val rfl rfl rfl (r_eql rfl rfl rfl) ?_ | refine s_val rfl rfl rfl (r_add rfl rfl rfl (wrap_in (by simp only [lo, hi]; omega))) ?_ | refine s_val rfl rfl rfl (r_sub rfl rfl rfl (wrap_in (by simp only [lo, hi]; omega))) ?_ | refine s_val rfl rfl rfl (r_leq rfl rfl rfl) ?_)
      | (refine s_k 2 rfl ?_; first | refine s_val rfl rfl rfl (r_pick1 rfl rfl zTr rfl) ?_ | refine s_val rfl rfl rfl (r_pick0 rfl rfl zTr rfl) ?_)
      | (refine s_k 25 rfl ?_; first | refine s_val rfl rfl rfl (r_ixS tb rfl hS rfl rfl rfl (by simp) hltx) ?_ | refine s_val rfl rfl rfl (r_ixS tb rfl hS rfl rfl rfl (by simp) hltq) ?_ | refine s_val rfl rfl rfl (r_ixN tb rfl rfl rfl rfl (by omega)) ?_ | refine s_val rfl rfl rfl (r_ixA tb rfl rfl rfl rfl (by omega) (by omega)) ?_ | refine s_val rfl rfl rfl (r_ixO tb rfl rfl rfl rfl (by omega)) ?_)
      | (refine s_k 4 rfl ?_; first | refine s_boxA rfl rfl rfl rfl rfl fun blk => ?_ | refine s_box1 rfl rfl rfl rfl rfl rfl fun blk => ?_)
      | (refine s_k 9 rfl ?_; (first | refine s_st1 tb rfl rfl rfl rfl rfl rfl rfl rfl ?_ | refine s_stA tb rfl rfl rfl rfl (by first | rfl | assumption | (apply Pv.size; assumption)) rfl rfl ?_); (first | refine' st0 ?qs ?_ | refine' st1 ?qs ?_ | refine' st2 ?qs ?_ | refine' st3 ?qs ?_ | refine' st4 ?qs ?_ | refine' st5 ?qs ?_ | refine' st6 ?qs ?_ | refine' st7 ?qs ?_ | refine' st8 ?qs ?_ | refine' st9 ?qs ?_ | refine' st10 ?qs ?_ | refine' st11 ?qs ?_); (case qs => (first | exact zSet)))
      | (refine s_k 3 rfl ?_; refine s_allocA (t := 88) rfl zImplSpot rfl rfl rfl fun blk => ?_)
      | (refine s_k 36 rfl ?_; refine s_val rfl rfl rfl (r_len tb rfl rfl rfl) ?_)
      | refine s_nil ?_)
            | (refine c_g ?_; first | refine c_seq ?_ | refine c_region ?_ | (refine c_gc ?_; first | refine c_cond1 rfl zTr ?_ | refine c_cond0 rfl zTr ?_ | refine z_condd1 rfl ?_ | refine z_condd0 rfl ?_ | refine z_conddn1 rfl ?_ | refine z_conddn0 rfl ?_ | refine c_condd rfl (fun hc => ?_) (fun hc => ?_) | refine c_conddn rfl (fun hc => ?_) (fun hc => ?_) | refine c_condn rfl (fun hc => ?_) (fun hc => ?_) | refine c_cond rfl (fun hc => ?_) (fun hc => ?_)) | refine c_block ?_ | refine c_skip ?_ | refine c_exit ?_ | refine c_ret ?_)
            | (refine e_g ?_; first | refine e_then ?_ | refine e_blkn ?_ | refine e_thenx ?_ | refine e_thenr ?_ | refine e_blkr ?_ | refine e_blkx ?_ | refine e_blky rfl ?_)
            | (refine e_drop0 (e_drop0 (e_round (k + 1) (by omega) (.inr hlt) ?_ rfl)); exact sub_cons rfl (sub_cons' rfl (by first | (rw [hsum]; done) | (rw [hsum]; simp; done) | (rw [hsum]; simp; omega)) (by repeat' (first | exact sub_nil | refine sub_cons rfl ?_)))))
  · have hkl : k = l.length - 1 := by omega
    subst hkl
    repeat' (first
      | (refine s_g ?_; first
      | (refine s_gd rfl ?_; first | refine s_gd1 rfl rfl zTr ?_ | refine s_gd0 rfl rfl rfl zTr ?_ | refine s_gd00 rfl rfl zTr ?_ | refine s_gp1 rfl rfl rfl (fun hc => ?_) (fun hc => ?_) | refine s_gp0 rfl rfl rfl (fun hc => ?_) (fun hc => ?_) | refine s_gnp1 rfl rfl rfl (fun hc => ?_) (fun hc => ?_) | refine s_gnp0 rfl rfl rfl (fun hc => ?_) (fun hc => ?_) | refine s_gb1 rfl rfl rfl (fun hc => ?_) (fun hc => ?_) | refine s_gb0 rfl rfl rfl (fun hc => ?_) (fun hc => ?_) | refine s_gnb1 rfl rfl rfl (fun hc => ?_) (fun hc => ?_) | refine s_gnb0 rfl rfl rfl (fun hc => ?_) (fun hc => ?_))
      | (refine s_k 0 rfl ?_; refine s_val rfl rfl rfl (r_move rfl rfl) ?_)
      | (refine s_k 23 rfl ?_; first | refine s_val rfl rfl rfl (r_field tb rfl rfl rfl) ?_ | refine s_val rfl rfl rfl (r_fieldS tb rfl rfl rfl) ?_)
      | (refine s_k 8 rfl ?_; first | (refine' s_val rfl rfl rfl (r_ldv rfl rfl ?qm ?qv) ?_; (case qm => (exact zMm)); (case qv => (first | exact ldvL tb rfl rfl | exact ldv1 tb rfl (by assumption) | exact ldvW tb rfl rfl | exact ldvW tb rfl (by assumption) | exact ldvW tb rfl (Pv.size (by assumption)) | exact ldvN tb rfl ext2_0 rfl | exact ldvN tb rfl ext2_2 rfl))) | (refine' s_val rfl rfl rfl (r_ldo rfl rfl ?qw (by simp) ?qv) ?_; (case qw => assumption); (case qv => (first | exact ldvL tb rfl rfl | exact ldv1 tb rfl (by assumption) | exact ldvW tb rfl rfl | exact ldvW tb rfl (by assumption) | exact ldvW tb rfl (Pv.size (by assumption)) | exact ldvN tb rfl ext2_0 rfl | exact ldvN tb rfl ext2_2 rfl))))
      | (refine s_k 1 rfl ?_; refine s_val rfl rfl rfl (r_assign rfl rfl) ?_)
      | (refine s_k 13 rfl ?_; first | refine s_val rfl rfl rfl (r_lss rfl rfl rfl) ?_ | refine s_val rfl rfl rfl (r_eql rfl rfl rfl) ?_ | refine s_val rfl rfl rfl (r_add rfl rfl rfl (wrap_in (by simp only [lo, hi]; omega))) ?_ | refine s_val rfl rfl rfl (r_sub rfl rfl rfl (wrap_in (by simp only [lo, hi]; omega))) ?_ | refine s_val rfl rfl rfl (r_leq rfl rfl rfl) ?_)
      | (refine s_k 2 rfl ?_; first | refine s_val rfl rfl rfl (r_pick1 rfl rfl zTr rfl) ?_ | refine s_val rfl rfl rfl (r_pick0 rfl rfl zTr rfl) ?_)
      | (refine s_k 25 rfl ?_; first | refine s_val rfl rfl rfl (r_ixN tb rfl rfl rfl rfl (by omega)) ?_ | refine s_val rfl rfl rfl (r_ixA tb rfl rfl rfl rfl (by omega) (by omega)) ?_ | refine s_val rfl rfl rfl (r_ixO tb rfl rfl rfl rfl (by omega)) ?_)
      | (refine s_k 4 rfl ?_; first | refine s_boxA rfl rfl rfl rfl rfl fun blk => ?_ | refine s_box1 rfl rfl rfl rfl rfl rfl fun blk => ?_)
      | (refine s_k 9 rfl ?_; (first | refine s_st1 tb rfl rfl rfl rfl rfl rfl rfl rfl ?_ | refine s_stA tb rfl rfl rfl rfl (by first | rfl | assumption | (apply Pv.size; assumption)) rfl rfl ?_); (first | refine' st0 ?qs ?_ | refine' st1 ?qs ?_ | refine' st2 ?qs ?_ | refine' st3 ?qs ?_ | refine' st4 ?qs ?_ | refine' st5 ?qs ?_ | refine' st6 ?qs ?_ | refine' st7 ?qs ?_ | refine' st8 ?qs ?_ | refine' st9 ?qs ?_ | refine' st10 ?qs ?_ | refine' st11 ?qs ?_); (case qs => (first | exact zSet)))
      | (refine s_k 36 rfl ?_; refine s_val rfl rfl rfl (r_len tb rfl rfl rfl) ?_)
      | refine s_nil ?_)
      | (refine c_g ?_; first | refine c_seq ?_ | refine c_region ?_ | (refine c_gc ?_; first | refine c_cond1 rfl zTr ?_ | refine c_cond0 rfl zTr ?_ | refine z_condd1 rfl ?_ | refine z_condd0 rfl ?_ | refine z_conddn1 rfl ?_ | refine z_conddn0 rfl ?_ | refine c_condd rfl (fun hc => ?_) (fun hc => ?_) | refine c_conddn rfl (fun hc => ?_) (fun hc => ?_) | refine c_condn rfl (fun hc => ?_) (fun hc => ?_) | refine c_cond rfl (fun hc => ?_) (fun hc => ?_)) | refine c_block ?_ | refine c_skip ?_ | refine c_exit ?_ | refine c_ret ?_)
      | (refine e_g ?_; first | refine e_then ?_ | refine e_blkn ?_ | refine e_thenx ?_ | refine e_thenr ?_ | refine e_blkr ?_ | refine e_blkx ?_ | refine e_blky rfl ?_)
      | (refine e_ret1 (by simp) rfl (re_tmp rfl) fun w hL => ⟨rfl, hL.toBelow⟩))
/-- the code of a walk -/
def walkC (p : Nat → Int) (o : Sp) (l : List Sp) (len : Int) : Int := fstC [cellC p [o], (if inB len 0 1000 then 0 else 2), (if wkV p o l then 0 else 4)]
theorem walkB_len {p : Nat → Int} {o : Sp} {l : List Sp} (h : walkB p o l = true) : l.length ≤ 200 := by
  unfold walkB inB at h; simp at h; omega
set_option maxRecDepth 100000 in
set_option maxHeartbeats 400000 in
theorem walkCode_any (p : Nat → Int) (cs : Array Value) (o : Sp) (l : List Sp) (A : Option Addr) (cap : Nat) (len : Int) (w : World) (hp : Pv p cs) (hs0 : o.ok) (hS : SlA [] w 2 A (l.map Sp.cells)) (hn : l.length ≤ maxLen) (hok : ∀ s ∈ l, s.ok) :
    Calls Try.prog 160 #[.agg cs, .agg #[.int .i8 o.x, .int .i8 o.y], .slice A l.length cap, .int .i64 len] w fun e w' => e = .returned (.int .i64 (walkC p o l len)) ∧ Below w.heap.size w w' := by
  have hsz := hp.size
  have hall : ∀ s ∈ [o], s.ok := fun s h => by simp at h; subst h; exact hs0
  refine enter4 Try.func160 rfl rfl rfl (Own.start w) ?_
  repeat' (first
    | (refine s_g ?_; first
      | (refine s_k 0 rfl ?_; refine s_val rfl rfl rfl (r_move rfl rfl) ?_)
      | (refine s_k 8 rfl ?_; first | (refine' s_val rfl rfl rfl (r_ldv rfl rfl ?qm ?qv) ?_; (case qm => (exact zMm)); (case qv => (first | exact ldvL tb rfl rfl | exact ldv1 tb rfl (by assumption) | exact ldvW tb rfl rfl | exact ldvW tb rfl (by assumption) | exact ldvW tb rfl (Pv.size (by assumption)) | exact ldvN tb rfl ext2_0 rfl | exact ldvN tb rfl ext2_2 rfl))) | (refine' s_val rfl rfl rfl (r_ldo rfl rfl ?qw (by simp) ?qv) ?_; (case qw => assumption); (case qv => (first | exact ldvL tb rfl rfl | exact ldv1 tb rfl (by assumption) | exact ldvW tb rfl rfl | exact ldvW tb rfl (by assumption) | exact ldvW tb rfl (Pv.size (by assumption)) | exact ldvN tb rfl ext2_0 rfl | exact ldvN tb rfl ext2_2 rfl))))
      | (refine s_k 1 rfl ?_; refine s_val rfl rfl rfl (r_assign rfl rfl) ?_)
      | (refine s_k 35 rfl ?_; first | (refine s_call Try.func103 (by kernel_rfl) rfl rfl rfl rfl rfl rfl (fun w hL => to_below (within_any _ _ _ _) rfl) ?_) | (refine s_call Try.func102 (by kernel_rfl) rfl rfl rfl rfl rfl rfl (fun w hL => to_below (unless0_any _ _ _) rfl) ?_) | (refine s_call Try.func61 (by kernel_rfl) rfl rfl rfl rfl rfl rfl (fun w hL => implWalk_any p cs o.x o.y l A cap _ hp hs0 (hS.at_ hL) hn hok) ?_))
      | (refine s_k 4 rfl ?_; first | refine s_boxA rfl rfl rfl rfl rfl fun blk => ?_ | refine s_box1 rfl rfl rfl rfl rfl rfl fun blk => ?_)
      | (refine s_k 6 rfl ?_; first | refine s_bsl rfl rfl (fun w => slSpot1 _ _ w) rfl rfl rfl fun blk => ?_ | refine s_bsl rfl rfl (fun w => slInt3 _ _ _ w) rfl rfl rfl fun blk => ?_)
      | refine s_nil ?_)
    | (refine c_g ?_; first | refine c_seq ?_ | refine c_region ?_ | (refine c_gc ?_; first | refine c_cond1 rfl zTr ?_ | refine c_cond0 rfl zTr ?_ | refine z_condd1 rfl ?_ | refine z_condd0 rfl ?_ | refine z_conddn1 rfl ?_ | refine z_conddn0 rfl ?_ | refine c_condd rfl (fun hc => ?_) (fun hc => ?_) | refine c_conddn rfl (fun hc => ?_) (fun hc => ?_) | refine c_condn rfl (fun hc => ?_) (fun hc => ?_) | refine c_cond rfl (fun hc => ?_) (fun hc => ?_)) | refine c_block ?_ | refine c_skip ?_ | refine c_exit ?_ | refine c_ret ?_)
    | (refine e_g ?_; first | refine e_then ?_ | refine e_blkn ?_ | refine e_thenx ?_ | refine e_thenr ?_ | refine e_blkr ?_ | refine e_blkx ?_ | refine e_blky rfl ?_)
    | (refine y_g ?_; first
      | (refine y_k 8 rfl ?_; first | (refine' y_val rfl rfl rfl (r_ldv rfl rfl ?qm ?qv) ?hp ?_; (case qm => (exact zMm)); (case qv => (first | exact ldvL tb rfl rfl | exact ldv1 tb rfl (by assumption) | exact ldvW tb rfl rfl | exact ldvW tb rfl (by assumption) | exact ldvW tb rfl (Pv.size (by assumption)) | exact ldvN tb rfl ext2_0 rfl | exact ldvN tb rfl ext2_2 rfl)); (case hp => exact rfl)) | (refine' y_val rfl rfl rfl (r_ldo rfl rfl ?qw (by simp) ?qv) ?hp ?_; (case qw => assumption); (case qv => (first | exact ldvL tb rfl rfl | exact ldv1 tb rfl (by assumption) | exact ldvW tb rfl rfl | exact ldvW tb rfl (by assumption) | exact ldvW tb rfl (Pv.size (by assumption)) | exact ldvN tb rfl ext2_0 rfl | exact ldvN tb rfl ext2_2 rfl)); (case hp => exact rfl)))
      | (refine y_k 35 rfl ?_; first | (refine y_call Try.func103 (by kernel_rfl) rfl rfl rfl rfl rfl rfl (fun w hL => to_below (within_any _ _ _ _) rfl) ?hp ?_; (case hp => exact rfl)) | (refine y_call Try.func102 (by kernel_rfl) rfl rfl rfl rfl rfl rfl (fun w hL => to_below (unless0_any _ _ _) rfl) ?hp ?_; (case hp => exact rfl)) | (refine y_call Try.func61 (by kernel_rfl) rfl rfl rfl rfl rfl rfl (fun w hL => implWalk_any p cs o.x o.y l A cap _ hp hs0 (hS.at_ hL) hn hok) ?hp ?_; (case hp => exact rfl)) | (refine' y_rd Try.func133 (by kernel_rfl) rfl rfl rfl rfl rfl rfl List.mem_cons_self (List.mem_cons_of_mem _ List.mem_cons_self) rfl (fun w hL => cellCode_any p cs _ [o] w hp (sl1_spot o (hL.at_ m0)) hall) ?hp ?_; (case hp => exact rfl)) | (refine' y_rd Try.func100 (by kernel_rfl) rfl rfl rfl rfl rfl rfl List.mem_cons_self List.mem_cons_self rfl (fun w hL => fo3 (hL.at_ m0)) ?hp ?_; (case hp => exact rfl)))
      | refine y_nil0 ?_
      | refine y_nil ?_
      | (refine' y_k 0 rfl ?_; (refine' y_move rfl rfl rfl rfl rfl ?hp ?_; (case hp => exact rfl)))
      | (refine' y_k 1 rfl ?_; (refine' y_assign rfl rfl rfl rfl rfl ?hp ?_; (case hp => exact rfl)))
      | (refine' y_k 6 rfl ?_; (refine' y_bsl rfl rfl (fun w => slSpot1 _ _ w) rfl rfl rfl ?hp (fun blk => ?_); (case hp => exact rfl)))
      | (refine' y_k 6 rfl ?_; (refine' y_bsl rfl rfl (fun w => slInt3 _ _ _ w) rfl rfl rfl ?hp (fun blk => ?_); (case hp => exact rfl))))
    | (refine' c_drawY (id := 1) [(Sum.inl _ : CalmB.Plan), (Sum.inl _ : CalmB.Plan), (Sum.inr _ : CalmB.Plan), (Sum.inl _ : CalmB.Plan), (Sum.inl _ : CalmB.Plan), (Sum.inl _ : CalmB.Plan), (Sum.inl _ : CalmB.Plan), (Sum.inl _ : CalmB.Plan), (Sum.inl _ : CalmB.Plan), (Sum.inl _ : CalmB.Plan), (Sum.inl _ : CalmB.Plan), (Sum.inl _ : CalmB.Plan), (Sum.inr _ : CalmB.Plan), (Sum.inl _ : CalmB.Plan), (Sum.inl _ : CalmB.Plan)] (by kernel_rfl) (by kernel_rfl) ?_)
    | (refine e_ret1 (by simp) rfl (re_tmp rfl) fun w hL => ⟨rfl, hL.toBelow⟩))
theorem l05Roped_val (p : Nat → Int) (o : Sp) (l : List Sp) (len : Int) : walkC p o l len = if askC p o.x o.y (inB len 0 1000) = 0 then (if walkB p o l then 0 else 4) else askC p o.x o.y (inB len 0 1000) := by
  obtain ⟨x, y⟩ := o
  unfold walkC fstC
  rw [cellC1]
  unfold askC fstC
  cases hv : validP p
  · simp
  · cases hc : isC (p 0) (p 1) x y
    · simp
    · have e : wkV p ⟨x, y⟩ l = walkB p ⟨x, y⟩ l := by simp [wkV, hv, hc]
      rw [e]
      cases inB len 0 1000 <;> cases walkB p ⟨x, y⟩ l <;> simp [fstC]
theorem walkC_0 {p : Nat → Int} {o : Sp} {l : List Sp} {len : Int} (h : walkC p o l len = 0) : inR o ∧ walkB p o l = true ∧ inB len 0 1000 = true := by
  rw [l05Roped_val] at h
  split at h
  · rename_i h0
    have h1 := ask0 h0
    refine ⟨isC_range h1.2.2.1, ?_, h1.2.2.2⟩
    split at h
    · assumption
    · cases h
  · contradiction
set_option maxRecDepth 100000 in
set_option maxHeartbeats 400000 in
theorem l05Roped_any (p : Nat → Int) (cs : Array Value) (T : TypeId) (gp : Nat) (o : Sp) (l : List Sp) (A : Option Addr) (cap : Nat) (len : Int) (w : World) (hp : Pv p cs) (hg : w.heap[gp]? = some (.cells cs T (0, 0))) (hs0 : o.ok) (hS : SlA [] w 2 A (l.map Sp.cells)) (hn : l.length ≤ maxLen) (hok : ∀ s ∈ l, s.ok) :
    Calls Try.prog 162 #[.pointer (some ⟨gp, 0, none⟩), .agg #[.int .i8 o.x, .int .i8 o.y], .slice A l.length cap, .int .i64 len] w fun e w' => e = .returned (.int .i64 (walkC p o l len)) ∧ Below w.heap.size w w' := by
  rw [l05Roped_val]
  by_cases h0 : askC p o.x o.y (inB len 0 1000) = 0
  · rw [if_pos h0]
    have hle := ask0 h0
    cases hw : walkB p o l
    all_goals
      refine enter4 Try.func162 rfl rfl rfl (Own.start w) ?_
      repeat' (first
        | (refine s_g ?_; first
      | (refine s_gd rfl ?_; first | refine s_gd1 rfl rfl zTr ?_ | refine s_gd0 rfl rfl rfl zTr ?_ | refine s_gd00 rfl rfl zTr ?_ | refine s_gp1 rfl rfl rfl (fun hc => ?_) (fun hc => ?_) | refine s_gp0 rfl rfl rfl (fun hc => ?_) (fun hc => ?_) | refine s_gnp1 rfl rfl rfl (fun hc => ?_) (fun hc => ?_) | refine s_gnp0 rfl rfl rfl (fun hc => ?_) (fun hc => ?_) | refine s_gb1 rfl rfl rfl (fun hc => ?_) (fun hc => ?_) | refine s_gb0 rfl rfl rfl (fun hc => ?_) (fun hc => ?_) | refine s_gnb1 rfl rfl rfl (fun hc => ?_) (fun hc => ?_) | refine s_gnb0 rfl rfl rfl (fun hc => ?_) (fun hc => ?_))
      | (refine s_k 0 rfl ?_; refine s_val rfl rfl rfl (r_move rfl rfl) ?_)
      | (refine s_k 8 rfl ?_; first | (refine' s_val rfl rfl rfl (r_ldv rfl rfl ?qm ?qv) ?_; (case qm => (exact zMm)); (case qv => (first | exact ldvL tb rfl rfl | exact ldv1 tb rfl (by assumption) | exact ldvW tb rfl rfl | exact ldvW tb rfl (by assumption) | exact ldvW tb rfl (Pv.size (by assumption)) | exact ldvN tb rfl ext2_0 rfl | exact ldvN tb rfl ext2_2 rfl))) | (refine' s_val rfl rfl rfl (r_ldo rfl rfl ?qw (by simp) ?qv) ?_; (case qw => assumption); (case qv => (first | exact ldvL tb rfl rfl | exact ldv1 tb rfl (by assumption) | exact ldvW tb rfl rfl | exact ldvW tb rfl (by assumption) | exact ldvW tb rfl (Pv.size (by assumption)) | exact ldvN tb rfl ext2_0 rfl | exact ldvN tb rfl ext2_2 rfl))))
      | (refine s_k 1 rfl ?_; refine s_val rfl rfl rfl (r_assign rfl rfl) ?_)
      | (refine s_k 13 rfl ?_; refine s_val rfl rfl rfl (r_eql rfl rfl rfl) ?_)
      | (refine s_k 35 rfl ?_; first | (refine s_call Try.func92 (by kernel_rfl) rfl rfl rfl rfl rfl rfl (fun w hL => to_below (l00In_any _ _ _ _) rfl) ?_) | (refine s_call Try.func230 (by kernel_rfl) rfl rfl rfl rfl rfl rfl (fun w hL => l01Asked_any p cs T gp o.x o.y _ _ hp (Kn.old hL hg (by simp)) ⟨hs0.1, hs0.2.1⟩ hs0.2.2) ?_) | (refine s_call Try.func231 (by kernel_rfl) rfl rfl rfl rfl rfl rfl (fun w hL => by have h := l05Walk_any p cs T gp o.x o.y l A cap _ hp (Kn.old hL hg (by simp)) hle.1 hle.2.1 hs0 (hS.at_ hL) hn hok; rw [hw] at h; exact h) ?_))
      | (refine s_k 14 rfl ?_; refine s_val rfl rfl rfl (r_not rfl rfl) ?_)
      | (refine s_k 2 rfl ?_; first | refine s_val rfl rfl rfl (r_pick1 rfl rfl zTr rfl) ?_ | refine s_val rfl rfl rfl (r_pick0 rfl rfl zTr rfl) ?_)
      | (refine s_k 4 rfl ?_; first | refine s_boxA rfl rfl rfl rfl rfl fun blk => ?_ | refine s_box1 rfl rfl rfl rfl rfl rfl fun blk => ?_)
      | refine s_nil ?_)
        | (refine c_g ?_; first | refine c_seq ?_ | refine c_region ?_ | (refine c_gc ?_; first | refine c_cond1 rfl zTr ?_ | refine c_cond0 rfl zTr ?_ | refine z_condd1 rfl ?_ | refine z_condd0 rfl ?_ | refine z_conddn1 rfl ?_ | refine z_conddn0 rfl ?_ | refine c_condd rfl (fun hc => ?_) (fun hc => ?_) | refine c_conddn rfl (fun hc => ?_) (fun hc => ?_) | refine c_condn rfl (fun hc => ?_) (fun hc => ?_) | refine c_cond rfl (fun hc => ?_) (fun hc => ?_)) | refine c_block ?_ | refine c_skip ?_ | refine c_exit ?_ | refine c_ret ?_)
        | (refine e_g ?_; first | refine e_then ?_ | refine e_blkn ?_ | refine e_thenx ?_ | refine e_thenr ?_ | refine e_blkr ?_ | refine e_blkx ?_ | refine e_blky rfl ?_)
        | (refine x_g ?_; first
      | (refine x_gd rfl ?_; first | refine x_gd1 rfl rfl zTr ?_ | (refine x_gd0 rfl rfl rfl zTr ?hp ?_; (case hp => exact rfl)))
      | (refine x_k 0 rfl ?_; (refine x_val rfl rfl rfl (r_move rfl rfl) ?hp ?_; (case hp => exact rfl)))
      | (refine x_k 8 rfl ?_; first | (refine' x_val rfl rfl rfl (r_ldv rfl rfl ?qm ?qv) ?hp ?_; (case qm => (exact zMm)); (case qv => (first | exact ldvL tb rfl rfl | exact ldv1 tb rfl (by assumption) | exact ldvW tb rfl rfl | exact ldvW tb rfl (by assumption) | exact ldvW tb rfl (Pv.size (by assumption)) | exact ldvN tb rfl ext2_0 rfl | exact ldvN tb rfl ext2_2 rfl)); (case hp => exact rfl)) | (refine' x_val rfl rfl rfl (r_ldo rfl rfl ?qw (by simp) ?qv) ?hp ?_; (case qw => assumption); (case qv => (first | exact ldvL tb rfl rfl | exact ldv1 tb rfl (by assumption) | exact ldvW tb rfl rfl | exact ldvW tb rfl (by assumption) | exact ldvW tb rfl (Pv.size (by assumption)) | exact ldvN tb rfl ext2_0 rfl | exact ldvN tb rfl ext2_2 rfl)); (case hp => exact rfl)))
      | (refine x_k 1 rfl ?_; (refine x_val rfl rfl rfl (r_assign rfl rfl) ?hp ?_; (case hp => exact rfl)))
      | (refine x_k 13 rfl ?_; (refine x_val rfl rfl rfl (r_eql rfl rfl rfl) ?hp ?_; (case hp => exact rfl)))
      | (refine x_k 35 rfl ?_; first | (refine x_call Try.func92 (by kernel_rfl) rfl rfl rfl rfl rfl rfl (fun w hL => to_below (l00In_any _ _ _ _) rfl) ?hp ?_; (case hp => exact rfl)) | (refine x_call Try.func230 (by kernel_rfl) rfl rfl rfl rfl rfl rfl (fun w hL => l01Asked_any p cs T gp o.x o.y _ _ hp (Kn.old hL hg (by simp)) ⟨hs0.1, hs0.2.1⟩ hs0.2.2) ?hp ?_; (case hp => exact rfl)) | (refine x_call Try.func231 (by kernel_rfl) rfl rfl rfl rfl rfl rfl (fun w hL => by have h := l05Walk_any p cs T gp o.x o.y l A cap _ hp (Kn.old hL hg (by simp)) hle.1 hle.2.1 hs0 (hS.at_ hL) hn hok; rw [hw] at h; exact h) ?hp ?_; (case hp => exact rfl)))
      | (refine x_k 14 rfl ?_; (refine x_val rfl rfl rfl (r_not rfl rfl) ?hp ?_; (case hp => exact rfl)))
      | (refine x_k 2 rfl ?_; first | (refine x_val rfl rfl rfl (r_pick1 rfl rfl zTr rfl) ?hp ?_; (case hp => exact rfl)) | (refine x_val rfl rfl rfl (r_pick0 rfl rfl zTr rfl) ?hp ?_; (case hp => exact rfl)))
      | (refine x_k 4 rfl ?_; (refine x_boxA rfl rfl rfl rfl rfl ?hp (fun blk => ?_); (case hp => exact rfl)))
      | refine x_nil0 ?_
      | refine x_nil ?_)
        | (refine' c_drawX (id := 1) [(Sum.inl _ : Calm.Plan), (Sum.inl _ : Calm.Plan), (Sum.inl _ : Calm.Plan), (Sum.inl _ : Calm.Plan), (Sum.inl _ : Calm.Plan), (Sum.inl _ : Calm.Plan)] (by kernel_rfl) (by kernel_rfl) (by kernel_rfl) ?_)
        | (refine e_ret1 (by simp) rfl (re_tmp rfl) fun w hL => ⟨by first | (simp; done) | (simp [h0]; done) | rfl, hL.toBelow⟩))
  · rw [if_neg h0]
    refine enter4 Try.func162 rfl rfl rfl (Own.start w) ?_
    repeat' (first
      | (refine s_g ?_; first
      | (refine s_gd rfl ?_; first | refine s_gd1 rfl rfl zTr ?_ | refine s_gd0 rfl rfl rfl zTr ?_ | refine s_gd00 rfl rfl zTr ?_ | refine s_gp1 rfl rfl rfl (fun hc => ?_) (fun hc => ?_) | refine s_gp0 rfl rfl rfl (fun hc => ?_) (fun hc => ?_) | refine s_gnp1 rfl rfl rfl (fun hc => ?_) (fun hc => ?_) | refine s_gnp0 rfl rfl rfl (fun hc => ?_) (fun hc => ?_) | refine s_gb1 rfl rfl rfl (fun hc => ?_) (fun hc => ?_) | refine s_gb0 rfl rfl rfl (fun hc => ?_) (fun hc => ?_) | refine s_gnb1 rfl rfl rfl (fun hc => ?_) (fun hc => ?_) | refine s_gnb0 rfl rfl rfl (fun hc => ?_) (fun hc => ?_))
      | (refine s_k 0 rfl ?_; refine s_val rfl rfl rfl (r_move rfl rfl) ?_)
      | (refine s_k 8 rfl ?_; first | (refine' s_val rfl rfl rfl (r_ldv rfl rfl ?qm ?qv) ?_; (case qm => (exact zMm)); (case qv => (first | exact ldvL tb rfl rfl | exact ldv1 tb rfl (by assumption) | exact ldvW tb rfl rfl | exact ldvW tb rfl (by assumption) | exact ldvW tb rfl (Pv.size (by assumption)) | exact ldvN tb rfl ext2_0 rfl | exact ldvN tb rfl ext2_2 rfl))) | (refine' s_val rfl rfl rfl (r_ldo rfl rfl ?qw (by simp) ?qv) ?_; (case qw => assumption); (case qv => (first | exact ldvL tb rfl rfl | exact ldv1 tb rfl (by assumption) | exact ldvW tb rfl rfl | exact ldvW tb rfl (by assumption) | exact ldvW tb rfl (Pv.size (by assumption)) | exact ldvN tb rfl ext2_0 rfl | exact ldvN tb rfl ext2_2 rfl))))
      | (refine s_k 1 rfl ?_; refine s_val rfl rfl rfl (r_assign rfl rfl) ?_)
      | (refine s_k 13 rfl ?_; refine s_val rfl rfl rfl (r_eql rfl rfl rfl) ?_)
      | (refine s_k 35 rfl ?_; first | (refine s_call Try.func92 (by kernel_rfl) rfl rfl rfl rfl rfl rfl (fun w hL => to_below (l00In_any _ _ _ _) rfl) ?_) | (refine s_call Try.func230 (by kernel_rfl) rfl rfl rfl rfl rfl rfl (fun w hL => l01Asked_any p cs T gp o.x o.y _ _ hp (Kn.old hL hg (by simp)) ⟨hs0.1, hs0.2.1⟩ hs0.2.2) ?_))
      | (refine s_k 14 rfl ?_; refine s_val rfl rfl rfl (r_not rfl rfl) ?_)
      | (refine s_k 2 rfl ?_; first | refine s_val rfl rfl rfl (r_pick1 rfl rfl zTr rfl) ?_ | refine s_val rfl rfl rfl (r_pick0 rfl rfl zTr rfl) ?_)
      | (refine s_k 4 rfl ?_; first | refine s_boxA rfl rfl rfl rfl rfl fun blk => ?_ | refine s_box1 rfl rfl rfl rfl rfl rfl fun blk => ?_)
      | refine s_nil ?_)
      | (refine c_g ?_; first | refine c_seq ?_ | refine c_region ?_ | (refine c_gc ?_; first | refine c_cond1 rfl zTr ?_ | refine c_cond0 rfl zTr ?_ | refine z_condd1 rfl ?_ | refine z_condd0 rfl ?_ | refine z_conddn1 rfl ?_ | refine z_conddn0 rfl ?_ | refine c_condd rfl (fun hc => ?_) (fun hc => ?_) | refine c_conddn rfl (fun hc => ?_) (fun hc => ?_) | refine c_condn rfl (fun hc => ?_) (fun hc => ?_) | refine c_cond rfl (fun hc => ?_) (fun hc => ?_)) | refine c_block ?_ | refine c_skip ?_ | refine c_exit ?_ | refine c_ret ?_)
      | (refine e_g ?_; first | refine e_then ?_ | refine e_blkn ?_ | refine e_thenx ?_ | refine e_thenr ?_ | refine e_blkr ?_ | refine e_blkx ?_ | refine e_blky rfl ?_)
      | (refine x_g ?_; first
      | (refine x_gd rfl ?_; first | refine x_gd1 rfl rfl zTr ?_ | (refine x_gd0 rfl rfl rfl zTr ?hp ?_; (case hp => exact rfl)))
      | (refine x_k 0 rfl ?_; (refine x_val rfl rfl rfl (r_move rfl rfl) ?hp ?_; (case hp => exact rfl)))
      | (refine x_k 8 rfl ?_; first | (refine' x_val rfl rfl rfl (r_ldv rfl rfl ?qm ?qv) ?hp ?_; (case qm => (exact zMm)); (case qv => (first | exact ldvL tb rfl rfl | exact ldv1 tb rfl (by assumption) | exact ldvW tb rfl rfl | exact ldvW tb rfl (by assumption) | exact ldvW tb rfl (Pv.size (by assumption)) | exact ldvN tb rfl ext2_0 rfl | exact ldvN tb rfl ext2_2 rfl)); (case hp => exact rfl)) | (refine' x_val rfl rfl rfl (r_ldo rfl rfl ?qw (by simp) ?qv) ?hp ?_; (case qw => assumption); (case qv => (first | exact ldvL tb rfl rfl | exact ldv1 tb rfl (by assumption) | exact ldvW tb rfl rfl | exact ldvW tb rfl (by assumption) | exact ldvW tb rfl (Pv.size (by assumption)) | exact ldvN tb rfl ext2_0 rfl | exact ldvN tb rfl ext2_2 rfl)); (case hp => exact rfl)))
      | (refine x_k 1 rfl ?_; (refine x_val rfl rfl rfl (r_assign rfl rfl) ?hp ?_; (case hp => exact rfl)))
      | (refine x_k 13 rfl ?_; (refine x_val rfl rfl rfl (r_eql rfl rfl rfl) ?hp ?_; (case hp => exact rfl)))
      | (refine x_k 35 rfl ?_; first | (refine x_call Try.func92 (by kernel_rfl) rfl rfl rfl rfl rfl rfl (fun w hL => to_below (l00In_any _ _ _ _) rfl) ?hp ?_; (case hp => exact rfl)) | (refine x_call Try.func230 (by kernel_rfl) rfl rfl rfl rfl rfl rfl (fun w hL => l01Asked_any p cs T gp o.x o.y _ _ hp (Kn.old hL hg (by simp)) ⟨hs0.1, hs0.2.1⟩ hs0.2.2) ?hp ?_; (case hp => exact rfl)))
      | (refine x_k 14 rfl ?_; (refine x_val rfl rfl rfl (r_not rfl rfl) ?hp ?_; (case hp => exact rfl)))
      | (refine x_k 2 rfl ?_; first | (refine x_val rfl rfl rfl (r_pick1 rfl rfl zTr rfl) ?hp ?_; (case hp => exact rfl)) | (refine x_val rfl rfl rfl (r_pick0 rfl rfl zTr rfl) ?hp ?_; (case hp => exact rfl)))
      | (refine x_k 4 rfl ?_; (refine x_boxA rfl rfl rfl rfl rfl ?hp (fun blk => ?_); (case hp => exact rfl)))
      | refine x_nil0 ?_
      | refine x_nil ?_)
      | (refine' c_drawX (id := 1) [(Sum.inl _ : Calm.Plan), (Sum.inl _ : Calm.Plan), (Sum.inl _ : Calm.Plan), (Sum.inl _ : Calm.Plan), (Sum.inl _ : Calm.Plan), (Sum.inl _ : Calm.Plan)] (by kernel_rfl) (by kernel_rfl) (by kernel_rfl) ?_)
      | (refine e_ret1 (by simp) rfl (re_tmp rfl) fun w hL => ⟨rfl, hL.toBelow⟩))
end Go.Proofs.Ytpifngdmlmfnhaa
