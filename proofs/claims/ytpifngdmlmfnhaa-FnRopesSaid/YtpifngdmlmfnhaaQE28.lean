import Derived.Test.YtpifngdmlmfnhaaQE23
import Derived.Test.YtpifngdmlmfnhaaQE26
import Derived.Test.YtpifngdmlmfnhaaQE27
/- Valid walks: what they are, step by step; the one that the laws draw. No condition but codes of at most 2^20 bytes. -/
namespace Go.Proofs.Ytpifngdmlmfnhaa
set_option linter.unusedVariables false
set_option linter.unusedSimpArgs false
open Go.RowKit Mem Wk
attribute [local irreducible] Calls Wk.S Wk.C Wk.E Wk.X Wk.T Wk.Y Wk.Z Wk.anV Wk.orV Wk.andV Wk.shlV Wk.shrV Calm.wpLex CalmB.wpLex CalmE.wpLex
/-- all cells but the stake's, each one step from the one before or the same -/
structure WkOk (p : Nat → Int) (a : Sp) (l : List Sp) : Prop where
  cell : ∀ c ∈ l, cel p c ∧ eqSp c a = false
  step : ∀ (i : Nat) (s t : Sp), l[i]? = some s → l[i + 1]? = some t → wkStep p s t = true
theorem wkTo_iff {p : Nat → Int} {a : Sp} {l : List Sp} : wkTo p a l l.length = true ↔ WkOk p a l := by
  unfold wkTo
  rw [List.all_eq_true]
  constructor
  · intro h
    refine ⟨fun c hc => ?_, fun i s t hs ht => ?_⟩
    · obtain ⟨i, hi⟩ := List.getElem?_of_mem hc
      have := h i (List.mem_range.2 (List.getElem?_eq_some_iff.1 hi).1)
      unfold wkAt at this
      rw [hi] at this
      simp only [Bool.and_eq_true, Bool.not_eq_true'] at this
      exact ⟨this.1.1, this.1.2⟩
    · have := h (i + 1) (List.mem_range.2 (List.getElem?_eq_some_iff.1 ht).1)
      unfold wkAt at this
      rw [ht] at this
      simp only [hs, Bool.and_eq_true] at this
      exact this.2
  · rintro ⟨h1, h2⟩ i hi
    have hi := List.mem_range.1 hi
    have hx : l[i]? = some l[i] := List.getElem?_eq_getElem hi
    obtain ⟨hc, hn⟩ := h1 _ (List.getElem_mem hi)
    unfold wkAt
    rw [hx]
    unfold cel at hc
    simp only [hc, hn, Bool.true_and, Bool.not_false]
    cases i with
    | zero => rfl
    | succ j =>
      have hy : l[j]? = some (l[j]'(by omega)) := List.getElem?_eq_getElem (by omega)
      simp only [hy]
      exact h2 j _ _ hy hx
theorem walkB_iff {p : Nat → Int} {a : Sp} {l : List Sp} : walkB p a l = true ↔ (1 ≤ l.length ∧ l.length ≤ 200) ∧ WkOk p a l := by
  unfold walkB
  rw [Bool.and_eq_true, wkTo_iff]
  refine and_congr_left fun _ => ?_
  unfold inB; simp; omega
theorem WkOk.snoc {p : Nat → Int} {a : Sp} {l : List Sp} {s t : Sp} (h : WkOk p a (l ++ [s])) (hc : cel p t) (hn : eqSp t a = false) (hs : wkStep p s t = true) : WkOk p a (l ++ [s] ++ [t]) := by
  refine ⟨fun c hcm => ?_, fun i u v hu hv => ?_⟩
  · rcases List.mem_append.1 hcm with hcm | hcm
    · exact h.cell c hcm
    · rw [List.mem_singleton] at hcm; subst hcm; exact ⟨hc, hn⟩
  · by_cases e : i + 1 < (l ++ [s]).length
    · rw [List.getElem?_append_left e] at hv
      rw [List.getElem?_append_left (by omega)] at hu
      exact h.step i u v hu hv
    · have hil := (List.getElem?_eq_some_iff.1 hv).1
      simp at e hil
      have ei : i = l.length := by omega
      subst ei
      simp at hu hv
      subst hu; subst hv; exact hs
theorem WkOk.init {p : Nat → Int} {a : Sp} {l : List Sp} {t : Sp} (h : WkOk p a (l ++ [t])) : WkOk p a l := by
  refine ⟨fun c hc => h.cell c (List.mem_append_left _ hc), fun i u v hu hv => ?_⟩
  have h1 := (List.getElem?_eq_some_iff.1 hu).1
  have h2 := (List.getElem?_eq_some_iff.1 hv).1
  exact h.step i u v (by rw [List.getElem?_append_left h1]; exact hu) (by rw [List.getElem?_append_left h2]; exact hv)
theorem WkOk.one {p : Nat → Int} {a t : Sp} (hc : cel p t) (hn : eqSp t a = false) : WkOk p a ([] ++ [t]) := by
  refine ⟨fun c h => ?_, fun i u v hu hv => ?_⟩
  · simp at h; subst h; exact ⟨hc, hn⟩
  · have := (List.getElem?_eq_some_iff.1 hv).1
    simp at this
theorem wkStep_self (p : Nat → Int) (s : Sp) : wkStep p s s = true := by unfold wkStep eqSp; simp
theorem wkStep_nb {p : Nat → Int} {s t : Sp} (h : t ∈ besL p s.x s.y 4) : wkStep p s t = true := by
  unfold wkStep
  rw [Bool.or_eq_true]
  right
  exact List.any_eq_true.2 ⟨t, h, by unfold eqSp; simp⟩
theorem spot_of_eq {a b : Sp} (h : eqSp a b = true) : a = b := by
  unfold eqSp at h
  simp at h
  obtain ⟨x, y⟩ := a
  obtain ⟨u, v⟩ := b
  simp only at h
  rw [h.1, h.2]
theorem wkStep_symm {p : Nat → Int} {s t : Sp} (hs : cel p s) (h : wkStep p s t = true) : wkStep p t s = true := by
  unfold wkStep at h
  rw [Bool.or_eq_true] at h
  rcases h with h | h
  · rw [spot_of_eq h]; exact wkStep_self p s
  · obtain ⟨c, hc, he⟩ := List.any_eq_true.1 h
    rw [spot_of_eq he]
    have := nbP_symm (a := s) (b := c) hs hc
    exact wkStep_nb (s := c) (t := s) this
theorem r_neqSpV {n : Nat} {O : List Nat} {w0 : World} {l : List (Nat × Value)} {L : List (Nat × TypeId × Array Value)} {o : Oper} {x y : Operand} {t' : Nat} {a b c d : Int} {v : Bool} (ho : o.op = .binOp .neq 88 x y t') (hx : ev l x = some (.agg #[.int .i8 a, .int .i8 b])) (hy : ev l y = some (.agg #[.int .i8 c, .int .i8 d])) (hv : (decide (a = c) && decide (b = d)) = v) : Rn Try.prog n O w0 l L o (.bool (!v)) := by
  subst hv; exact r_neqSpot ho hx hy
/-- what P6Walk answers -/
def WalkR (p : Nat → Int) (a : Sp) (l : List Sp) : Prop := WkOk p a l ∧ l.length ≤ 24
set_option maxRecDepth 100000 in
set_option maxHeartbeats 3200000 in
theorem P6Walk_any (bs : List Int) (A : Option Addr) (cap : Nat) (p : Nat → Int) (cs : Array Value) (a : Sp) (w : World) (hp : Pv p cs) (hs : small p) (ha : cel p a) (hS : SlA [] w 1 A (byC bs)) (hb : ∀ b ∈ bs, 0 ≤ b ∧ b ≤ 255) (hn : bs.length ≤ 1048576) :
    Calls Try.prog 60 #[.slice A bs.length cap, .agg cs, .agg #[.int .i8 a.x, .int .i8 a.y]] w fun e w' => ∃ l, WalkR p a l ∧ NewS 88 2 (flS l) w e w' := by
  have hsz := hp.size
  have g0 := hp.g0
  have g1 := hp.g1
  have hpk := fun w gs at2 sd2 n hS ha hb2 hg => pick_any bs A cap gs at2 sd2 n w hS hb hn ha hb2 hg
  have hok := fun n at2 sd2 ha => pkV_ok hb n at2 sd2 ha
  generalize pkV bs = pk at *
  obtain ⟨hs1, hs2⟩ := hs
  have k1 := hok (p 0) 0 0 (by omega)
  have p1 := fun w gs hS hg => hpk w gs 0 0 (p 0) hS (by omega) (by omega) hg
  rcases hq1 : pk (p 0) 0 0 with ⟨r1, at1, sd1⟩
  simp only [hq1] at k1 p1
  have k2 := hok (p 1) at1 sd1 (by omega)
  have p2 := fun w gs hS hg => hpk w gs at1 sd1 (p 1) hS (by omega) (by omega) hg
  rcases hq2 : pk (p 1) at1 sd1 with ⟨r2, at2, sd2⟩
  simp only [hq2] at k2 p2
  have k3 := hok 24 at2 sd2 (by omega)
  have p3 := fun w gs hS hg => hpk w gs at2 sd2 24 hS (by omega) (by omega) hg
  rcases hq3 : pk 24 at2 sd2 with ⟨r3, at3, sd3⟩
  simp only [hq3] at k3 p3
  have hw0 : IntKind.i64.wrap (p 0) = p 0 := wrap_in (by simp only [Wk.lo, Wk.hi]; omega)
  have hw1 : IntKind.i64.wrap (p 1) = p 1 := wrap_in (by simp only [Wk.lo, Wk.hi]; omega)
  have hw2 : IntKind.i8.wrap r1 = r1 := wrap_in (by simp only [Wk.lo, Wk.hi]; omega)
  have hw3 : IntKind.i8.wrap r2 = r2 := wrap_in (by simp only [Wk.lo, Wk.hi]; omega)
  have hic : cel p ⟨r1, r2⟩ := by unfold cel isC inB; simp; omega
  have hev : (decide (r1 = a.x) && decide (r2 = a.y)) = eqSp ⟨r1, r2⟩ a := rfl
  obtain ⟨K, hK⟩ : ∃ K : Nat, 1 + r3 = (K : Int) := ⟨(1 + r3).toNat, by omega⟩
  cases he : eqSp ⟨r1, r2⟩ a
  case true =>
    rw [he] at hev
    refine enter3 Try.func60 rfl rfl rfl (Own.start w) ?_
    repeat' (first
      | (refine s_g ?_; first
      | (refine s_k 0 rfl ?_; refine s_val rfl rfl rfl (r_move rfl rfl) ?_)
      | (refine s_k 23 rfl ?_; first | refine s_val rfl rfl rfl (r_field tb rfl rfl rfl) ?_ | refine s_val rfl rfl rfl (r_fieldS tb rfl rfl rfl) ?_)
      | (refine s_k 8 rfl ?_; first | (refine' s_val rfl rfl rfl (r_ldv rfl rfl ?qm ?qv) ?_; (case qm => (exact zMm)); (case qv => (first | exact ldvL tb rfl rfl | exact ldv1 tb rfl (by assumption) | exact ldv1 tb rfl (g0) | exact ldv1 tb rfl (g1) | exact ldvW tb rfl rfl | exact ldvW tb rfl (by assumption) | exact ldvW tb rfl (Pv.size (by assumption)) | exact ldvN tb rfl ext2_0 rfl | exact ldvN tb rfl ext2_2 rfl))) | (refine' s_val rfl rfl rfl (r_ldo rfl rfl ?qw (by simp) ?qv) ?_; (case qw => assumption); (case qv => (first | exact ldvL tb rfl rfl | exact ldv1 tb rfl (by assumption) | exact ldv1 tb rfl (g0) | exact ldv1 tb rfl (g1) | exact ldvW tb rfl rfl | exact ldvW tb rfl (by assumption) | exact ldvW tb rfl (Pv.size (by assumption)) | exact ldvN tb rfl ext2_0 rfl | exact ldvN tb rfl ext2_2 rfl))))
      | (refine s_k 1 rfl ?_; refine s_val rfl rfl rfl (r_assign rfl rfl) ?_)
      | (refine s_k 13 rfl ?_; first | refine s_val rfl rfl rfl (r_eqSpV rfl rfl rfl hev) ?_ | refine s_val rfl rfl rfl (r_eql rfl rfl rfl) ?_ | refine s_val rfl rfl rfl (r_neq rfl rfl rfl) ?_ | refine s_val rfl rfl rfl (r_add rfl rfl rfl (wrap_in (by simp only [lo, hi]; omega))) ?_ | refine s_val rfl rfl rfl (r_sub rfl rfl rfl (wrap_in (by simp only [lo, hi]; omega))) ?_ | refine s_val rfl rfl rfl (r_gtr rfl rfl rfl) ?_)
      | (refine s_k 35 rfl ?_; first | (refine s_from Try.func155 (by kernel_rfl) rfl rfl rfl rfl rfl rfl (fun w hL => from_any A bs.length cap w) fun gs => ?_) | (refine s_callM0 Try.func156 (by kernel_rfl) rfl rfl rfl rfl rfl rfl (fun w hL hg => p1 w _ (SlA.away hS hL m0 (by omega)) hg) fun cs5 hcs5 => ?_; subst hcs5) | (refine s_callM0 Try.func156 (by kernel_rfl) rfl rfl rfl rfl rfl rfl (fun w hL hg => p2 w _ (SlA.away hS hL m0 (by omega)) hg) fun cs5 hcs5 => ?_; subst hcs5))
      | (refine s_k 15 rfl ?_; first | refine s_val rfl rfl rfl (r_conv tb rfl rfl rfl rfl hw0) ?_ | refine s_val rfl rfl rfl (r_conv tb rfl rfl rfl rfl hw1) ?_ | refine s_val rfl rfl rfl (r_conv tb rfl rfl rfl rfl hw2) ?_ | refine s_val rfl rfl rfl (r_conv tb rfl rfl rfl rfl hw3) ?_ | refine s_val rfl rfl rfl (r_conv tb rfl rfl rfl rfl (wrap_in (by simp only [lo, hi]; omega))) ?_)
      | (refine s_k 25 rfl ?_; first | refine s_val rfl rfl rfl (r_ixN tb rfl rfl rfl rfl (by omega)) ?_ | refine s_val rfl rfl rfl (r_ixA tb rfl rfl rfl rfl (by omega) (by omega)) ?_ | refine s_val rfl rfl rfl (r_ixO tb rfl rfl rfl rfl (by omega)) ?_)
      | (refine s_k 4 rfl ?_; first | refine s_boxA rfl rfl rfl rfl rfl fun blk => ?_ | refine s_box1 rfl rfl rfl rfl rfl rfl fun blk => ?_)
      | (refine s_k 9 rfl ?_; (first | refine s_st1 tb rfl rfl rfl rfl rfl rfl rfl rfl ?_ | refine s_stA tb rfl rfl rfl rfl (by first | rfl | assumption | (apply Pv.size; assumption)) rfl rfl ?_); (first | refine' st0 ?qs ?_ | refine' st1 ?qs ?_ | refine' st2 ?qs ?_ | refine' st3 ?qs ?_ | refine' st4 ?qs ?_ | refine' st5 ?qs ?_ | refine' st6 ?qs ?_ | refine' st7 ?qs ?_ | refine' st8 ?qs ?_ | refine' st9 ?qs ?_ | refine' st10 ?qs ?_ | refine' st11 ?qs ?_); (case qs => (first | exact set_whole (vs := #[.int .i8 r1, .int .i8 r2]) rfl (by simp [Value.oneCell']) | exact zSet)))
      | (refine s_k 3 rfl ?_; refine s_allocA (t := 88) rfl zImplSpot rfl rfl rfl fun blk => ?_)
      | (refine s_k 36 rfl ?_; refine s_val rfl rfl rfl (r_len tb rfl rfl rfl) ?_)
      | (refine s_k 5 rfl ?_; refine s_val rfl rfl rfl (r_build rfl rfl (fun w => bSpot _ _ rfl rfl w)) ?_)
      | (refine s_k 6 rfl ?_; refine s_bsl rfl rfl (fun w => slSpot0 w) rfl rfl rfl fun blk => ?_)
      | refine s_nil ?_)
      | (refine c_g ?_; first | refine c_seq ?_ | refine c_region ?_ | (refine c_gc ?_; first | refine c_cond1 rfl zTr ?_ | refine c_cond0 rfl zTr ?_ | refine z_condd1 rfl ?_ | refine z_condd0 rfl ?_ | refine z_conddn1 rfl ?_ | refine z_conddn0 rfl ?_ | refine c_condd rfl (fun hc => ?_) (fun hc => ?_) | refine c_conddn rfl (fun hc => ?_) (fun hc => ?_) | refine c_condn rfl (fun hc => ?_) (fun hc => ?_) | refine c_cond rfl (fun hc => ?_) (fun hc => ?_)) | refine c_block ?_ | refine c_skip ?_ | refine c_exit ?_ | refine c_ret ?_)
      | (refine e_g ?_; first | refine e_then ?_ | refine e_blkn ?_ | refine e_thenx ?_ | refine e_thenr ?_ | refine e_blkr ?_ | refine e_blkx ?_ | refine e_blky rfl ?_)
      | (refine e_ret1 (by simp) rfl (re_tmp rfl) fun w hL => ⟨[], ⟨⟨fun c h => by simp at h, fun i s t h => by simp at h⟩, by simp⟩, NewS.of (Ap.nil 2) hL m0⟩))
  case false =>
    rw [he] at hev
    refine enter3 Try.func60 rfl rfl rfl (Own.start w) ?_
    repeat' (first
      | (refine s_g ?_; first
      | (refine s_k 0 rfl ?_; refine s_val rfl rfl rfl (r_move rfl rfl) ?_)
      | (refine s_k 23 rfl ?_; first | refine s_val rfl rfl rfl (r_field tb rfl rfl rfl) ?_ | refine s_val rfl rfl rfl (r_fieldS tb rfl rfl rfl) ?_)
      | (refine s_k 8 rfl ?_; first | (refine' s_val rfl rfl rfl (r_ldv rfl rfl ?qm ?qv) ?_; (case qm => (exact zMm)); (case qv => (first | exact ldvL tb rfl rfl | exact ldv1 tb rfl (by assumption) | exact ldv1 tb rfl (g0) | exact ldv1 tb rfl (g1) | exact ldvW tb rfl rfl | exact ldvW tb rfl (by assumption) | exact ldvW tb rfl (Pv.size (by assumption)) | exact ldvN tb rfl ext2_0 rfl | exact ldvN tb rfl ext2_2 rfl))) | (refine' s_val rfl rfl rfl (r_ldo rfl rfl ?qw (by simp) ?qv) ?_; (case qw => assumption); (case qv => (first | exact ldvL tb rfl rfl | exact ldv1 tb rfl (by assumption) | exact ldv1 tb rfl (g0) | exact ldv1 tb rfl (g1) | exact ldvW tb rfl rfl | exact ldvW tb rfl (by assumption) | exact ldvW tb rfl (Pv.size (by assumption)) | exact ldvN tb rfl ext2_0 rfl | exact ldvN tb rfl ext2_2 rfl))))
      | (refine s_k 1 rfl ?_; refine s_val rfl rfl rfl (r_assign rfl rfl) ?_)
      | (refine s_k 13 rfl ?_; first | refine s_val rfl rfl rfl (r_eqSpV rfl rfl rfl hev) ?_ | refine s_val rfl rfl rfl (r_eql rfl rfl rfl) ?_ | refine s_val rfl rfl rfl (r_neq rfl rfl rfl) ?_ | refine s_val rfl rfl rfl (r_add rfl rfl rfl (wrap_in (by simp only [lo, hi]; omega))) ?_ | refine s_val rfl rfl rfl (r_sub rfl rfl rfl (wrap_in (by simp only [lo, hi]; omega))) ?_ | refine s_val rfl rfl rfl (r_gtr rfl rfl rfl) ?_)
      | (refine s_k 35 rfl ?_; first | (refine s_from Try.func155 (by kernel_rfl) rfl rfl rfl rfl rfl rfl (fun w hL => from_any A bs.length cap w) fun gs => ?_) | (refine s_callM0 Try.func156 (by kernel_rfl) rfl rfl rfl rfl rfl rfl (fun w hL hg => p1 w _ (SlA.away hS hL m0 (by omega)) hg) fun cs5 hcs5 => ?_; subst hcs5) | (refine s_callM0 Try.func156 (by kernel_rfl) rfl rfl rfl rfl rfl rfl (fun w hL hg => p2 w _ (SlA.away hS hL m0 (by omega)) hg) fun cs5 hcs5 => ?_; subst hcs5) | (refine s_callM2 Try.func156 (by kernel_rfl) rfl rfl rfl rfl rfl rfl (fun w hL hg => p3 w _ (SlA.away hS hL m2 (by omega)) hg) fun cs5 hcs5 => ?_; subst hcs5))
      | (refine s_k 15 rfl ?_; first | refine s_val rfl rfl rfl (r_conv tb rfl rfl rfl rfl hw0) ?_ | refine s_val rfl rfl rfl (r_conv tb rfl rfl rfl rfl hw1) ?_ | refine s_val rfl rfl rfl (r_conv tb rfl rfl rfl rfl hw2) ?_ | refine s_val rfl rfl rfl (r_conv tb rfl rfl rfl rfl hw3) ?_ | refine s_val rfl rfl rfl (r_conv tb rfl rfl rfl rfl (wrap_in (by simp only [lo, hi]; omega))) ?_)
      | (refine s_k 25 rfl ?_; first | refine s_val rfl rfl rfl (r_ixN tb rfl rfl rfl rfl (by omega)) ?_ | refine s_val rfl rfl rfl (r_ixA tb rfl rfl rfl rfl (by omega) (by omega)) ?_ | refine s_val rfl rfl rfl (r_ixO tb rfl rfl rfl rfl (by omega)) ?_)
      | (refine s_k 4 rfl ?_; first | refine s_boxA rfl rfl rfl rfl rfl fun blk => ?_ | refine s_box1 rfl rfl rfl rfl rfl rfl fun blk => ?_)
      | (refine s_k 9 rfl ?_; (first | refine s_st1 tb rfl rfl rfl rfl rfl rfl rfl rfl ?_ | refine s_stA tb rfl rfl rfl rfl (by first | rfl | assumption | (apply Pv.size; assumption)) rfl rfl ?_); (first | refine' st0 ?qs ?_ | refine' st1 ?qs ?_ | refine' st2 ?qs ?_ | refine' st3 ?qs ?_ | refine' st4 ?qs ?_ | refine' st5 ?qs ?_ | refine' st6 ?qs ?_ | refine' st7 ?qs ?_ | refine' st8 ?qs ?_ | refine' st9 ?qs ?_ | refine' st10 ?qs ?_ | refine' st11 ?qs ?_); (case qs => (first | exact set_whole (vs := #[.int .i8 r1, .int .i8 r2]) rfl (by simp [Value.oneCell']) | exact zSet)))
      | (refine s_k 3 rfl ?_; refine s_allocA (t := 88) rfl zImplSpot rfl rfl rfl fun blk => ?_)
      | (refine s_k 36 rfl ?_; refine s_val rfl rfl rfl (r_len tb rfl rfl rfl) ?_)
      | (refine s_k 5 rfl ?_; refine s_val rfl rfl rfl (r_build rfl rfl (fun w => bSpot _ _ rfl rfl w)) ?_)
      | (refine s_k 6 rfl ?_; refine s_bsl rfl rfl (fun w => slSpot0 w) rfl rfl rfl fun blk => ?_)
      | refine s_nil ?_)
      | (refine c_g ?_; first | refine c_seq ?_ | refine c_region ?_ | (refine c_gc ?_; first | refine c_cond1 rfl zTr ?_ | refine c_cond0 rfl zTr ?_ | refine z_condd1 rfl ?_ | refine z_condd0 rfl ?_ | refine z_conddn1 rfl ?_ | refine z_conddn0 rfl ?_ | refine c_condd rfl (fun hc => ?_) (fun hc => ?_) | refine c_conddn rfl (fun hc => ?_) (fun hc => ?_) | refine c_condn rfl (fun hc => ?_) (fun hc => ?_) | refine c_cond rfl (fun hc => ?_) (fun hc => ?_)) | refine c_block ?_ | refine c_skip ?_ | refine c_exit ?_ | refine c_ret ?_)
      | (refine e_g ?_; first | refine e_then ?_ | refine e_blkn ?_ | refine e_thenx ?_ | refine e_thenr ?_ | refine e_blkr ?_ | refine e_blkx ?_ | refine e_blky rfl ?_))
    rename_i b4 b5 b9
    have hK24 : K ≤ 24 := by omega
    rw [hK]
    refine c_loop (ι := Nat × List Sp × Sp × Nat × Nat × Array Value × Int × Int) (fun i => i.1) (fun i => i.2.1.length + i.1 = K ∧ WkOk p a (i.2.1 ++ [i.2.2.1]) ∧ Ap 2 i.2.1.length i.2.2.2.2.1 i.2.2.2.2.2.1 (flS i.2.1) ∧ 0 ≤ i.2.2.2.2.2.2.1 ∧ i.2.2.2.2.2.2.1 ≤ 6 + i.2.1.length * 2) (fun i => [(11, .int .i64 (i.1 : Int)), (10, .slice (some ⟨i.2.2.2.1, 0, none⟩) i.2.1.length i.2.2.2.2.1), (9, .pointer (some ⟨b9, 0, none⟩)), (7, .pointer (some ⟨gs, 0, none⟩)), (5, .pointer (some ⟨b5, 0, none⟩)), (4, .pointer (some ⟨b4, 0, none⟩))]) (fun i => [(i.2.2.2.1, 88, i.2.2.2.2.2.1), (b9, 88, #[.int .i8 i.2.2.1.x, .int .i8 i.2.2.1.y]), (gs, 263, srcC A bs.length cap i.2.2.2.2.2.2.1 i.2.2.2.2.2.2.2), (b5, 88, #[.int .i8 a.x, .int .i8 a.y]), (b4, 34, cs)]) (K, [], ⟨r1, r2⟩, blk, 0, #[], at3, sd3) ⟨by simp, WkOk.one hic he, Ap.nil 2, by simp only; omega, by simp only [List.length_nil]; omega⟩ ?hs rfl ?_
    case hs => (repeat' (first | exact sub_nil | refine sub_cons rfl ?_))
    clear he hev hic k1 k2 k3 p1 p2 p3 hq1 hq2 hq3
    rintro ⟨rem, l, now, g, cpo, co, at4, sd4⟩ ⟨hlen, hWk, hA, hl0, hh0⟩
    simp only at hlen hWk hA hl0 hh0 ⊢
    by_cases hr0 : 0 < rem
    · obtain ⟨m, rfl⟩ : ∃ m, rem = m + 1 := ⟨rem - 1, by omega⟩
      have hcn := (hWk.cell now (by simp)).1
      have hnn := (hWk.cell now (by simp)).2
      have hrn : inR now := isC_range hcn
      have hbes := fun w T g hg => l01Beside_any p cs T g now.x now.y w hp hg (by omega) (by omega) ⟨hrn.1, hrn.2.1⟩ hrn.2.2
      have hblen := besL_len p now.x now.y 4
      have hbin : ∀ c ∈ besL p now.x now.y 4, cel p c ∧ wkStep p now c = true := fun c hc => ⟨besL_inR hc, wkStep_nb hc⟩
      have hself := hWk.snoc hcn hnn (wkStep_self p now)
      generalize besL p now.x now.y 4 = Y at *
      have hl2 : (l ++ [now]).length = l.length + 1 := by simp
      by_cases hY : Y.length = 0
      · repeat' (first
          | (refine s_g ?_; first
      | (refine s_k 0 rfl ?_; refine s_val rfl rfl rfl (r_move rfl rfl) ?_)
      | (refine s_k 23 rfl ?_; first | refine s_val rfl rfl rfl (r_field tb rfl rfl rfl) ?_ | refine s_val rfl rfl rfl (r_fieldS tb rfl rfl rfl) ?_)
      | (refine s_k 8 rfl ?_; first | (refine' s_val rfl rfl rfl (r_ldv rfl rfl ?qm ?qv) ?_; (case qm => (exact zMm)); (case qv => (first | exact ldvL tb rfl rfl | exact ldv1 tb rfl (by assumption) | exact ldvW tb rfl rfl | exact ldvW tb rfl (by assumption) | exact ldvW tb rfl (Pv.size (by assumption)) | exact ldvN tb rfl ext2_0 rfl | exact ldvN tb rfl ext2_2 rfl))) | (refine' s_val rfl rfl rfl (r_ldo rfl rfl ?qw (by simp) ?qv) ?_; (case qw => assumption); (case qv => (first | exact ldvL tb rfl rfl | exact ldv1 tb rfl (by assumption) | exact ldvW tb rfl rfl | exact ldvW tb rfl (by assumption) | exact ldvW tb rfl (Pv.size (by assumption)) | exact ldvN tb rfl ext2_0 rfl | exact ldvN tb rfl ext2_2 rfl))))
      | (refine s_k 1 rfl ?_; refine s_val rfl rfl rfl (r_assign rfl rfl) ?_)
      | (refine s_k 13 rfl ?_; first | refine s_val rfl rfl rfl (r_eql rfl rfl rfl) ?_ | refine s_val rfl rfl rfl (r_neq rfl rfl rfl) ?_ | refine s_val rfl rfl rfl (r_add rfl rfl rfl (wrap_in (by simp only [lo, hi]; omega))) ?_ | refine s_val rfl rfl rfl (r_sub rfl rfl rfl (wrap_in (by simp only [lo, hi]; omega))) ?_ | refine s_val rfl rfl rfl (r_gtr rfl rfl rfl) ?_)
      | (refine s_k 35 rfl ?_; (refine s_callN Try.func157 (by kernel_rfl) rfl rfl rfl rfl rfl rfl (fun w hL => hbes w _ _ (hL.at_ m4)) fun gy ky cpy cuy hAy => ?_; obtain rfl := hAy.cnt))
      | (refine s_k 15 rfl ?_; refine s_val rfl rfl rfl (r_conv tb rfl rfl rfl rfl (wrap_in (by simp only [lo, hi]; omega))) ?_)
      | (refine s_k 25 rfl ?_; first | refine s_val rfl rfl rfl (r_ixN tb rfl rfl rfl rfl (by omega)) ?_ | refine s_val rfl rfl rfl (r_ixA tb rfl rfl rfl rfl (by omega) (by omega)) ?_ | refine s_val rfl rfl rfl (r_ixO tb rfl rfl rfl rfl (by omega)) ?_)
      | (refine s_k 4 rfl ?_; first | refine s_boxA rfl rfl rfl rfl rfl fun blk => ?_ | refine s_box1 rfl rfl rfl rfl rfl rfl fun blk => ?_)
      | (refine s_k 9 rfl ?_; (first | refine s_st1 tb rfl rfl rfl rfl rfl rfl rfl rfl ?_ | refine s_stA tb rfl rfl rfl rfl (by first | rfl | assumption | (apply Pv.size; assumption)) rfl rfl ?_); (first | refine' st0 ?qs ?_ | refine' st1 ?qs ?_ | refine' st2 ?qs ?_ | refine' st3 ?qs ?_ | refine' st4 ?qs ?_ | refine' st5 ?qs ?_ | refine' st6 ?qs ?_ | refine' st7 ?qs ?_ | refine' st8 ?qs ?_ | refine' st9 ?qs ?_ | refine' st10 ?qs ?_ | refine' st11 ?qs ?_); (case qs => (first | exact zSet)))
      | (refine s_k 36 rfl ?_; first | refine s_app0 hA rfl rfl rfl uSpotS iSpot rfl (by omega) (by simp) (by simp) rfl (by simp [Value.oneCell']) (by unfold maxLen; omega) (by omega) rfl rfl rfl fun g' cap' cur' hA' => ?_ | refine s_val rfl rfl rfl (r_len tb rfl rfl rfl) ?_)
      | (refine s_k 6 rfl ?_; refine s_bsl rfl rfl (fun w => slSpot1 _ _ w) rfl rfl rfl fun blk => ?_)
      | refine s_nil ?_)
          | (refine c_g ?_; first | refine c_seq ?_ | refine c_region ?_ | (refine c_gc ?_; first | refine c_cond1 rfl zTr ?_ | refine c_cond0 rfl zTr ?_ | refine z_condd1 rfl ?_ | refine z_condd0 rfl ?_ | refine z_conddn1 rfl ?_ | refine z_conddn0 rfl ?_ | refine c_condd rfl (fun hc => ?_) (fun hc => ?_) | refine c_conddn rfl (fun hc => ?_) (fun hc => ?_) | refine c_condn rfl (fun hc => ?_) (fun hc => ?_) | refine c_cond rfl (fun hc => ?_) (fun hc => ?_)) | refine c_block ?_ | refine c_skip ?_ | refine c_exit ?_ | refine c_ret ?_)
          | (refine e_g ?_; first | refine e_then ?_ | refine e_blkn ?_ | refine e_thenx ?_ | refine e_thenr ?_ | refine e_blkr ?_ | refine e_blkx ?_ | refine e_blky rfl ?_)
          | (refine e_drop0 (e_round (m, l ++ [now], now, g', cap', cur', at4, sd4) (by simp) ⟨by simp only [hl2]; omega, hself, by simp only; rw [hl2, flS_snoc]; exact hA', hl0, by simp only [hl2]; omega⟩ ?_ rfl)))
        all_goals (rw [hl2]; exact sub_cons' rfl (by first | rfl | (congr 1; omega)) (by repeat' (first | exact sub_nil | refine sub_cons rfl ?_)))
      · have k4 := hok (Y.length : Int) at4 sd4 hl0
        have p4 := fun w gs hS hg => hpk w gs at4 sd4 (Y.length : Int) hS hl0 (by omega) hg
        rcases hq4 : pk (Y.length : Int) at4 sd4 with ⟨r4, at5, sd5⟩
        simp only [hq4] at k4 p4
        obtain ⟨rn, rfl⟩ : ∃ rn : Nat, r4 = (rn : Int) := ⟨r4.toNat, by omega⟩
        have hrl : rn < Y.length := by omega
        have hxy : Y[rn]? = some Y[rn] := List.getElem?_eq_getElem hrl
        obtain ⟨hct, hst⟩ := hbin _ (List.getElem_mem hrl)
        generalize Y[rn] = t at *
        have hev2 : (decide (t.x = a.x) && decide (t.y = a.y)) = eqSp t a := rfl
        cases het : eqSp t a
        case true =>
          rw [het] at hev2
          repeat' (first
            | (refine s_g ?_; first
      | (refine s_k 0 rfl ?_; refine s_val rfl rfl rfl (r_move rfl rfl) ?_)
      | (refine s_k 23 rfl ?_; first | refine s_val rfl rfl rfl (r_field tb rfl rfl rfl) ?_ | refine s_val rfl rfl rfl (r_fieldS tb rfl rfl rfl) ?_)
      | (refine s_k 8 rfl ?_; first | refine s_val rfl rfl rfl (r_ldN tb rfl rfl m0 rfl (hAy.spot hxy).1 (hAy.spot hxy).2) ?_ | (refine' s_val rfl rfl rfl (r_ldv rfl rfl ?qm ?qv) ?_; (case qm => (exact zMm)); (case qv => (first | exact ldvL tb rfl rfl | exact ldv1 tb rfl (by assumption) | exact ldvW tb rfl rfl | exact ldvW tb rfl (by assumption) | exact ldvW tb rfl (Pv.size (by assumption)) | exact ldvN tb rfl ext2_0 rfl | exact ldvN tb rfl ext2_2 rfl))) | (refine' s_val rfl rfl rfl (r_ldo rfl rfl ?qw (by simp) ?qv) ?_; (case qw => assumption); (case qv => (first | exact ldvL tb rfl rfl | exact ldv1 tb rfl (by assumption) | exact ldvW tb rfl rfl | exact ldvW tb rfl (by assumption) | exact ldvW tb rfl (Pv.size (by assumption)) | exact ldvN tb rfl ext2_0 rfl | exact ldvN tb rfl ext2_2 rfl))))
      | (refine s_k 1 rfl ?_; refine s_val rfl rfl rfl (r_assign rfl rfl) ?_)
      | (refine s_k 13 rfl ?_; first | refine s_val rfl rfl rfl (r_neqSpV rfl rfl rfl hev2) ?_ | refine s_val rfl rfl rfl (r_eql rfl rfl rfl) ?_ | refine s_val rfl rfl rfl (r_neq rfl rfl rfl) ?_ | refine s_val rfl rfl rfl (r_add rfl rfl rfl (wrap_in (by simp only [lo, hi]; omega))) ?_ | refine s_val rfl rfl rfl (r_sub rfl rfl rfl (wrap_in (by simp only [lo, hi]; omega))) ?_ | refine s_val rfl rfl rfl (r_gtr rfl rfl rfl) ?_)
      | (refine s_k 35 rfl ?_; first | (refine s_callN Try.func157 (by kernel_rfl) rfl rfl rfl rfl rfl rfl (fun w hL => hbes w _ _ (hL.at_ m4)) fun gy ky cpy cuy hAy => ?_; obtain rfl := hAy.cnt) | (refine s_callM3 Try.func156 (by kernel_rfl) rfl rfl rfl rfl rfl rfl (fun w hL hg => p4 w _ (SlA.away hS hL m3 (by omega)) hg) fun cs5 hcs5 => ?_; subst hcs5))
      | (refine s_k 15 rfl ?_; refine s_val rfl rfl rfl (r_conv tb rfl rfl rfl rfl (wrap_in (by simp only [lo, hi]; omega))) ?_)
      | (refine s_k 25 rfl ?_; first | refine s_val rfl rfl rfl (r_ixO tb rfl rfl rfl rfl hrl) ?_ | refine s_val rfl rfl rfl (r_ixN tb rfl rfl rfl rfl (by omega)) ?_ | refine s_val rfl rfl rfl (r_ixA tb rfl rfl rfl rfl (by omega) (by omega)) ?_ | refine s_val rfl rfl rfl (r_ixO tb rfl rfl rfl rfl (by omega)) ?_)
      | (refine s_k 4 rfl ?_; first | refine s_boxA rfl rfl rfl rfl rfl fun blk => ?_ | refine s_box1 rfl rfl rfl rfl rfl rfl fun blk => ?_)
      | (refine s_k 9 rfl ?_; (first | refine s_st1 tb rfl rfl rfl rfl rfl rfl rfl rfl ?_ | refine s_stA tb rfl rfl rfl rfl (by first | rfl | assumption | (apply Pv.size; assumption)) rfl rfl ?_); (first | refine' st0 ?qs ?_ | refine' st1 ?qs ?_ | refine' st2 ?qs ?_ | refine' st3 ?qs ?_ | refine' st4 ?qs ?_ | refine' st5 ?qs ?_ | refine' st6 ?qs ?_ | refine' st7 ?qs ?_ | refine' st8 ?qs ?_ | refine' st9 ?qs ?_ | refine' st10 ?qs ?_ | refine' st11 ?qs ?_); (case qs => (first | exact set_whole (vs := #[.int .i8 t.x, .int .i8 t.y]) rfl (by simp [Value.oneCell']) | exact zSet)))
      | (refine s_k 3 rfl ?_; refine s_allocA (t := 88) rfl zImplSpot rfl rfl rfl fun blk => ?_)
      | (refine s_k 36 rfl ?_; first | refine s_app0 hA rfl rfl rfl uSpotS iSpot rfl (by omega) (by simp) (by simp) rfl (by simp [Value.oneCell']) (by unfold maxLen; omega) (by omega) rfl rfl rfl fun g' cap' cur' hA' => ?_ | refine s_val rfl rfl rfl (r_len tb rfl rfl rfl) ?_)
      | (refine s_k 6 rfl ?_; refine s_bsl rfl rfl (fun w => slSpot1 _ _ w) rfl rfl rfl fun blk => ?_)
      | refine s_nil ?_)
            | (refine c_g ?_; first | refine c_seq ?_ | refine c_region ?_ | (refine c_gc ?_; first | refine c_cond1 rfl zTr ?_ | refine c_cond0 rfl zTr ?_ | refine z_condd1 rfl ?_ | refine z_condd0 rfl ?_ | refine z_conddn1 rfl ?_ | refine z_conddn0 rfl ?_ | refine c_condd rfl (fun hc => ?_) (fun hc => ?_) | refine c_conddn rfl (fun hc => ?_) (fun hc => ?_) | refine c_condn rfl (fun hc => ?_) (fun hc => ?_) | refine c_cond rfl (fun hc => ?_) (fun hc => ?_)) | refine c_block ?_ | refine c_skip ?_ | refine c_exit ?_ | refine c_ret ?_)
            | (refine e_g ?_; first | refine e_then ?_ | refine e_blkn ?_ | refine e_thenx ?_ | refine e_thenr ?_ | refine e_blkr ?_ | refine e_blkx ?_ | refine e_blky rfl ?_)
            | (refine e_drop0 (e_drop0 (e_round (m, l ++ [now], now, g', cap', cur', at5, sd5) (by simp) ⟨by simp only [hl2]; omega, hself, by simp only; rw [hl2, flS_snoc]; exact hA', by simp only; omega, by simp only [hl2]; omega⟩ ?_ rfl))))
          all_goals (rw [hl2]; exact sub_cons' rfl (by first | rfl | (congr 1; omega)) (by repeat' (first | exact sub_nil | refine sub_cons rfl ?_)))
        case false =>
          rw [het] at hev2
          have hnext := hWk.snoc hct het hst
          repeat' (first
            | (refine s_g ?_; first
      | (refine s_k 0 rfl ?_; refine s_val rfl rfl rfl (r_move rfl rfl) ?_)
      | (refine s_k 23 rfl ?_; first | refine s_val rfl rfl rfl (r_field tb rfl rfl rfl) ?_ | refine s_val rfl rfl rfl (r_fieldS tb rfl rfl rfl) ?_)
      | (refine s_k 8 rfl ?_; first | refine s_val rfl rfl rfl (r_ldN tb rfl rfl m0 rfl (hAy.spot hxy).1 (hAy.spot hxy).2) ?_ | (refine' s_val rfl rfl rfl (r_ldv rfl rfl ?qm ?qv) ?_; (case qm => (exact zMm)); (case qv => (first | exact ldvL tb rfl rfl | exact ldv1 tb rfl (by assumption) | exact ldvW tb rfl rfl | exact ldvW tb rfl (by assumption) | exact ldvW tb rfl (Pv.size (by assumption)) | exact ldvN tb rfl ext2_0 rfl | exact ldvN tb rfl ext2_2 rfl))) | (refine' s_val rfl rfl rfl (r_ldo rfl rfl ?qw (by simp) ?qv) ?_; (case qw => assumption); (case qv => (first | exact ldvL tb rfl rfl | exact ldv1 tb rfl (by assumption) | exact ldvW tb rfl rfl | exact ldvW tb rfl (by assumption) | exact ldvW tb rfl (Pv.size (by assumption)) | exact ldvN tb rfl ext2_0 rfl | exact ldvN tb rfl ext2_2 rfl))))
      | (refine s_k 1 rfl ?_; refine s_val rfl rfl rfl (r_assign rfl rfl) ?_)
      | (refine s_k 13 rfl ?_; first | refine s_val rfl rfl rfl (r_neqSpV rfl rfl rfl hev2) ?_ | refine s_val rfl rfl rfl (r_eql rfl rfl rfl) ?_ | refine s_val rfl rfl rfl (r_neq rfl rfl rfl) ?_ | refine s_val rfl rfl rfl (r_add rfl rfl rfl (wrap_in (by simp only [lo, hi]; omega))) ?_ | refine s_val rfl rfl rfl (r_sub rfl rfl rfl (wrap_in (by simp only [lo, hi]; omega))) ?_ | refine s_val rfl rfl rfl (r_gtr rfl rfl rfl) ?_)
      | (refine s_k 35 rfl ?_; first | (refine s_callN Try.func157 (by kernel_rfl) rfl rfl rfl rfl rfl rfl (fun w hL => hbes w _ _ (hL.at_ m4)) fun gy ky cpy cuy hAy => ?_; obtain rfl := hAy.cnt) | (refine s_callM3 Try.func156 (by kernel_rfl) rfl rfl rfl rfl rfl rfl (fun w hL hg => p4 w _ (SlA.away hS hL m3 (by omega)) hg) fun cs5 hcs5 => ?_; subst hcs5))
      | (refine s_k 15 rfl ?_; refine s_val rfl rfl rfl (r_conv tb rfl rfl rfl rfl (wrap_in (by simp only [lo, hi]; omega))) ?_)
      | (refine s_k 25 rfl ?_; first | refine s_val rfl rfl rfl (r_ixO tb rfl rfl rfl rfl hrl) ?_ | refine s_val rfl rfl rfl (r_ixN tb rfl rfl rfl rfl (by omega)) ?_ | refine s_val rfl rfl rfl (r_ixA tb rfl rfl rfl rfl (by omega) (by omega)) ?_ | refine s_val rfl rfl rfl (r_ixO tb rfl rfl rfl rfl (by omega)) ?_)
      | (refine s_k 4 rfl ?_; first | refine s_boxA rfl rfl rfl rfl rfl fun blk => ?_ | refine s_box1 rfl rfl rfl rfl rfl rfl fun blk => ?_)
      | (refine s_k 9 rfl ?_; (first | refine s_st1 tb rfl rfl rfl rfl rfl rfl rfl rfl ?_ | refine s_stA tb rfl rfl rfl rfl (by first | rfl | assumption | (apply Pv.size; assumption)) rfl rfl ?_); (first | refine' st0 ?qs ?_ | refine' st1 ?qs ?_ | refine' st2 ?qs ?_ | refine' st3 ?qs ?_ | refine' st4 ?qs ?_ | refine' st5 ?qs ?_ | refine' st6 ?qs ?_ | refine' st7 ?qs ?_ | refine' st8 ?qs ?_ | refine' st9 ?qs ?_ | refine' st10 ?qs ?_ | refine' st11 ?qs ?_); (case qs => (first | exact set_whole (vs := #[.int .i8 t.x, .int .i8 t.y]) rfl (by simp [Value.oneCell']) | exact zSet)))
      | (refine s_k 3 rfl ?_; refine s_allocA (t := 88) rfl zImplSpot rfl rfl rfl fun blk => ?_)
      | (refine s_k 36 rfl ?_; first | refine s_app0 hA rfl rfl rfl uSpotS iSpot rfl (by omega) (by simp) (by simp) rfl (by simp [Value.oneCell']) (by unfold maxLen; omega) (by omega) rfl rfl rfl fun g' cap' cur' hA' => ?_ | refine s_val rfl rfl rfl (r_len tb rfl rfl rfl) ?_)
      | (refine s_k 6 rfl ?_; refine s_bsl rfl rfl (fun w => slSpot1 _ _ w) rfl rfl rfl fun blk => ?_)
      | refine s_nil ?_)
            | (refine c_g ?_; first | refine c_seq ?_ | refine c_region ?_ | (refine c_gc ?_; first | refine c_cond1 rfl zTr ?_ | refine c_cond0 rfl zTr ?_ | refine z_condd1 rfl ?_ | refine z_condd0 rfl ?_ | refine z_conddn1 rfl ?_ | refine z_conddn0 rfl ?_ | refine c_condd rfl (fun hc => ?_) (fun hc => ?_) | refine c_conddn rfl (fun hc => ?_) (fun hc => ?_) | refine c_condn rfl (fun hc => ?_) (fun hc => ?_) | refine c_cond rfl (fun hc => ?_) (fun hc => ?_)) | refine c_block ?_ | refine c_skip ?_ | refine c_exit ?_ | refine c_ret ?_)
            | (refine e_g ?_; first | refine e_then ?_ | refine e_blkn ?_ | refine e_thenx ?_ | refine e_thenr ?_ | refine e_blkr ?_ | refine e_blkx ?_ | refine e_blky rfl ?_)
            | (refine e_drop0 (e_drop0 (e_round (m, l ++ [now], t, g', cap', cur', at5, sd5) (by simp) ⟨by simp only [hl2]; omega, hnext, by simp only; rw [hl2, flS_snoc]; exact hA', by simp only; omega, by simp only [hl2]; omega⟩ ?_ rfl))))
          all_goals (rw [hl2]; exact sub_cons' rfl (by first | rfl | (congr 1; omega)) (by repeat' (first | exact sub_nil | refine sub_cons rfl ?_)))
    · repeat' (first
        | (refine s_g ?_; first
      | (refine s_k 0 rfl ?_; refine s_val rfl rfl rfl (r_move rfl rfl) ?_)
      | (refine s_k 23 rfl ?_; first | refine s_val rfl rfl rfl (r_field tb rfl rfl rfl) ?_ | refine s_val rfl rfl rfl (r_fieldS tb rfl rfl rfl) ?_)
      | (refine s_k 8 rfl ?_; first | (refine' s_val rfl rfl rfl (r_ldv rfl rfl ?qm ?qv) ?_; (case qm => (exact zMm)); (case qv => (first | exact ldvL tb rfl rfl | exact ldv1 tb rfl (by assumption) | exact ldvW tb rfl rfl | exact ldvW tb rfl (by assumption) | exact ldvW tb rfl (Pv.size (by assumption)) | exact ldvN tb rfl ext2_0 rfl | exact ldvN tb rfl ext2_2 rfl))) | (refine' s_val rfl rfl rfl (r_ldo rfl rfl ?qw (by simp) ?qv) ?_; (case qw => assumption); (case qv => (first | exact ldvL tb rfl rfl | exact ldv1 tb rfl (by assumption) | exact ldvW tb rfl rfl | exact ldvW tb rfl (by assumption) | exact ldvW tb rfl (Pv.size (by assumption)) | exact ldvN tb rfl ext2_0 rfl | exact ldvN tb rfl ext2_2 rfl))))
      | (refine s_k 1 rfl ?_; refine s_val rfl rfl rfl (r_assign rfl rfl) ?_)
      | (refine s_k 13 rfl ?_; first | refine s_val rfl rfl rfl (r_eql rfl rfl rfl) ?_ | refine s_val rfl rfl rfl (r_neq rfl rfl rfl) ?_ | refine s_val rfl rfl rfl (r_add rfl rfl rfl (wrap_in (by simp only [lo, hi]; omega))) ?_ | refine s_val rfl rfl rfl (r_sub rfl rfl rfl (wrap_in (by simp only [lo, hi]; omega))) ?_ | refine s_val rfl rfl rfl (r_gtr rfl rfl rfl) ?_)
      | (refine s_k 15 rfl ?_; refine s_val rfl rfl rfl (r_conv tb rfl rfl rfl rfl (wrap_in (by simp only [lo, hi]; omega))) ?_)
      | (refine s_k 25 rfl ?_; first | refine s_val rfl rfl rfl (r_ixN tb rfl rfl rfl rfl (by omega)) ?_ | refine s_val rfl rfl rfl (r_ixA tb rfl rfl rfl rfl (by omega) (by omega)) ?_ | refine s_val rfl rfl rfl (r_ixO tb rfl rfl rfl rfl (by omega)) ?_)
      | (refine s_k 4 rfl ?_; first | refine s_boxA rfl rfl rfl rfl rfl fun blk => ?_ | refine s_box1 rfl rfl rfl rfl rfl rfl fun blk => ?_)
      | (refine s_k 9 rfl ?_; (first | refine s_st1 tb rfl rfl rfl rfl rfl rfl rfl rfl ?_ | refine s_stA tb rfl rfl rfl rfl (by first | rfl | assumption | (apply Pv.size; assumption)) rfl rfl ?_); (first | refine' st0 ?qs ?_ | refine' st1 ?qs ?_ | refine' st2 ?qs ?_ | refine' st3 ?qs ?_ | refine' st4 ?qs ?_ | refine' st5 ?qs ?_ | refine' st6 ?qs ?_ | refine' st7 ?qs ?_ | refine' st8 ?qs ?_ | refine' st9 ?qs ?_ | refine' st10 ?qs ?_ | refine' st11 ?qs ?_); (case qs => (first | exact zSet)))
      | (refine s_k 36 rfl ?_; refine s_val rfl rfl rfl (r_len tb rfl rfl rfl) ?_)
      | refine s_nil ?_)
        | (refine c_g ?_; first | refine c_seq ?_ | refine c_region ?_ | (refine c_gc ?_; first | refine c_cond1 rfl zTr ?_ | refine c_cond0 rfl zTr ?_ | refine z_condd1 rfl ?_ | refine z_condd0 rfl ?_ | refine z_conddn1 rfl ?_ | refine z_conddn0 rfl ?_ | refine c_condd rfl (fun hc => ?_) (fun hc => ?_) | refine c_conddn rfl (fun hc => ?_) (fun hc => ?_) | refine c_condn rfl (fun hc => ?_) (fun hc => ?_) | refine c_cond rfl (fun hc => ?_) (fun hc => ?_)) | refine c_block ?_ | refine c_skip ?_ | refine c_exit ?_ | refine c_ret ?_)
        | (refine e_g ?_; first | refine e_then ?_ | refine e_blkn ?_ | refine e_thenx ?_ | refine e_thenr ?_ | refine e_blkr ?_ | refine e_blkx ?_ | refine e_blky rfl ?_)
        | (refine e_ret1 (by simp) rfl (re_tmp rfl) fun w hL => ⟨l, ⟨hWk.init, by omega⟩, NewS.of hA hL m0⟩))
end Go.Proofs.Ytpifngdmlmfnhaa
