import Derived.Test.YtpifngdmlmfnhaaQC27
/- GreatestReach: the program's. No condition. -/
namespace Go.Proofs.Ytpifngdmlmfnhaa
set_option linter.unusedVariables false
set_option linter.unusedSimpArgs false
open Go.RowKit Mem Wk
theorem Wk.r_ldSq {P : Program} {n : Nat} {O : List Nat} {w0 : World} {l : List (Nat × Value)} {L : List (Nat × TypeId × Array Value)} {o : Oper} {x : Operand} (tb : Tb P) {ty sz i m j e : Nat} {A : Option Addr} {xs : List (List Value)} {c c' : List Value} (ho : o.op = .load ty x) (hS : SlA O w0 sz A xs) (hx : ev l x = some (.pointer (some (sadr A e)))) (he : e = i * sz + j) (hc : xs[i]? = some c) (hp : (c.drop j).take m = c') (ht : lkT tb.s ty = some (true, m)) (hfit : c'.length = m) : Rn P n O w0 l L o (.agg c'.toArray) := fun a w hF hL => by
  obtain ⟨hl, b, off, hA, hb, hcell⟩ := hS i c hc
  subst hA; subst he
  refine run_loadA ho (tb.agg ht).1 (b := b) (off := off + i * sz + j) (by simpa [sadr, Nat.add_assoc] using hF.eval hx) (fun k u hu => ?_) (tb.agg ht).2 hfit
  subst hp
  rw [List.getElem?_take] at hu
  split at hu
  · rw [List.getElem?_drop] at hu
    have := hcell (j + k) u hu
    rw [show off + i * sz + j + k = off + i * sz + (j + k) by omega]
    exact Kn.oldc hL this hb
  · cases hu
attribute [local irreducible] Calls Wk.S Wk.C Wk.E Wk.X Wk.T Wk.Y Wk.andV Wk.shrV Calm.wpLex CalmB.wpLex bfsN
/-- the least of a bound and the squares less 1 of cells -/
def mnF (o : Sp) (l : List Sp) (b : Int) : Int := l.foldl (fun a c => min a (sqOf o c - 1)) b
theorem mnF_le {o : Sp} {z : Int} : ∀ (l : List Sp) (b : Int), z ≤ mnF o l b ↔ z ≤ b ∧ ∀ c ∈ l, z ≤ sqOf o c - 1
  | [], b => by simp [mnF]
  | c :: l, b => by
    have h := mnF_le (o := o) (z := z) l (min b (sqOf o c - 1))
    unfold mnF at h ⊢
    rw [List.foldl_cons, h]
    constructor
    · rintro ⟨h1, h2⟩
      refine ⟨by omega, fun d hd => ?_⟩
      rcases List.mem_cons.1 hd with rfl | hd
      · omega
      · exact h2 d hd
    · rintro ⟨h1, h2⟩
      have h3 := h2 c List.mem_cons_self
      exact ⟨by omega, fun d hd => h2 d (List.mem_cons_of_mem _ hd)⟩
theorem mnF_succ {o : Sp} {l : List Sp} {k : Nat} {c : Sp} {b : Int} (h : l[k]? = some c) : mnF o (l.take (k + 1)) b = min (mnF o (l.take k) b) (sqOf o c - 1) := by
  unfold mnF; rw [List.take_add_one, h, List.foldl_append]; rfl
theorem sq_in {a b : Sp} (ha : inR a) (hb : inR b) : 0 ≤ sqOf a b ∧ sqOf a b ≤ 162 := by
  obtain ⟨h1, h2, h3, h4⟩ := ha
  obtain ⟨g1, g2, g3, g4⟩ := hb
  have q : ∀ t : Int, -9 ≤ t → t ≤ 9 → 0 ≤ t * t ∧ t * t ≤ 81 := fun t u v => by
    have e1 : 0 ≤ (9 - t) * (9 + t) := Int.mul_nonneg (by omega) (by omega)
    have e2 : (9 - t) * (9 + t) = 81 - t * t := by rw [Int.sub_mul, Int.mul_add, Int.mul_add]; omega
    have e3 : 0 ≤ t * t := by
      rcases Int.le_total 0 t with w | w
      · exact Int.mul_nonneg w w
      · have := Int.mul_nonneg (a := -t) (b := -t) (by omega) (by omega); rw [Int.neg_mul_neg] at this; exact this
    omega
  unfold sqOf
  have := q (a.x - b.x) (by omega) (by omega)
  have := q (a.y - b.y) (by omega) (by omega)
  omega
/-- the least after k stakes -/
def grK (p : Nat → Int) (o : Sp) (i : Nat) (L : List Sk) : Nat → Int
  | 0 => 200
  | k + 1 => if k = i then grK p o i L k else mnF o (cmnL (yardL p o) (reachL p (L.getD k skZ))) (grK p o i L k)
theorem mnF_rng {o : Sp} {l : List Sp} {b : Int} (ho : inR o) (hl : ∀ c ∈ l, inR c) (h1 : -1 ≤ b) (h2 : b ≤ 200) : -1 ≤ mnF o l b ∧ mnF o l b ≤ 200 :=
  ⟨(mnF_le l b).2 ⟨h1, fun c hc => by have := sq_in ho (hl c hc); omega⟩, Int.le_trans ((mnF_le l b).1 (Int.le_refl _)).1 h2⟩
set_option maxRecDepth 100000 in
theorem sizeSk_any (A : Option Addr) (n cap : Nat) (w : World) : Calls Try.prog 104 #[.slice A n cap] w fun e w' => e = .returned (.int .i64 (n : Int)) ∧ Below w.heap.size w w' := by
  refine enter1 Try.func104 rfl rfl rfl (Own.start w) ?_
  repeat' (first
    | (refine s_g ?_; first
      | (refine s_k 0 rfl ?_; refine s_val rfl rfl rfl (r_move rfl rfl) ?_)
      | (refine s_k 1 rfl ?_; refine s_val rfl rfl rfl (r_assign rfl rfl) ?_)
      | (refine s_k 36 rfl ?_; refine s_val rfl rfl rfl (r_len tb rfl rfl rfl) ?_)
      | refine s_nil ?_)
    | (refine c_g ?_; first | refine c_seq ?_ | refine c_region ?_ | (refine c_gc ?_; first | refine c_cond1 rfl zTr ?_ | refine c_cond0 rfl zTr ?_ | refine z_condd1 rfl ?_ | refine z_condd0 rfl ?_ | refine z_conddn1 rfl ?_ | refine z_conddn0 rfl ?_ | refine c_condd rfl (fun hc => ?_) (fun hc => ?_) | refine c_conddn rfl (fun hc => ?_) (fun hc => ?_) | refine c_condn rfl (fun hc => ?_) (fun hc => ?_) | refine c_cond rfl (fun hc => ?_) (fun hc => ?_)) | refine c_block ?_ | refine c_skip ?_ | refine c_exit ?_ | refine c_ret ?_)
    | (refine e_g ?_; first | refine e_then ?_ | refine e_blkn ?_ | refine e_thenx ?_ | refine e_thenr ?_ | refine e_blkr ?_ | refine e_blkx ?_ | refine e_blky rfl ?_)
    | (refine e_ret1 (by simp) rfl (re_tmp rfl) fun w hL => ⟨rfl, hL.toBelow⟩))
def skC (p : Nat → Int) (L : List Sk) : Int := if validStk p L then 0 else 1
def grC (p : Nat → Int) (L : List Sk) (idx : Int) : Int := if validStk p L then (if inB idx 0 ((L.length : Int) - 1) then 0 else 2) else 1
theorem grC_fst (p : Nat → Int) (L : List Sk) (idx : Int) : fstC [skC p L, if inB idx 0 ((L.length : Int) - 1) then 0 else 2] = grC p L idx := by
  unfold grC skC
  cases validStk p L <;> cases inB idx 0 ((L.length : Int) - 1) <;> simp [fstC]
def grV (p : Nat → Int) (L : List Sk) (idx : Int) : Int × Int :=
  if grC p L idx = 0 then (if grK p ⟨(L.getD idx.toNat skZ).x, (L.getD idx.toNat skZ).y⟩ idx.toNat L L.length < 0 then (0, 6) else (grK p ⟨(L.getD idx.toNat skZ).x, (L.getD idx.toNat skZ).y⟩ idx.toNat L L.length, 0)) else (0, grC p L idx)
theorem yardL_len2 {p : Nat → Int} {o : Sp} (ha : p 0 ≤ 10) (hb : p 1 ≤ 10) (hc : isC (p 0) (p 1) o.x o.y = true) : (yardL p o).length ≤ 100 := by
  obtain ⟨_, _, hW10, hH10⟩ := dims ha hb hc
  unfold yardL pasL
  exact Nat.le_trans (cellL_len _ _ _) (Nat.mul_le_mul hH10 hW10)
theorem zImplStk : (Try.prog.info? 132).map (·.zero) = some (some (.agg #[.int .i8 0, .int .i8 0, .int .i16 0])) := by kernel_rfl
theorem vs_get {p : Nat → Int} {L : List Sk} (h : validStk p L = true) : p 0 ≤ 10 ∧ p 1 ≤ 10 ∧ L.length ≤ 12 ∧ ∀ (k : Nat) (s : Sk), L[k]? = some s → isC (p 0) (p 1) s.x s.y = true := by
  unfold validStk at h
  simp only [Bool.and_eq_true, decide_eq_true_eq, List.all_eq_true, List.mem_range] at h
  obtain ⟨h1, h2, h3⟩ := h
  obtain ⟨ha, hb⟩ := valid_le2 h1
  refine ⟨ha, hb, h2, fun k s hk => ?_⟩
  have h4 := h3 k (List.getElem?_eq_some_iff.1 hk).1
  unfold itemOk stOk at h4
  simp only [Bool.and_eq_true] at h4
  have e : L.getD k skZ = s := by simp [List.getD_eq_getElem?_getD, hk]
  rw [e] at h4
  exact h4.1.1
set_option maxRecDepth 100000 in
set_option maxHeartbeats 1600000 in
theorem implGreat_ok (p : Nat → Int) (cs : Array Value) (v : Value) (L : List Sk) (i : Nat) (w : World) (hp : Pv p cs) (hU : Sl w 3 v (L.map Sk.cells)) (hok : ∀ s ∈ L, s.ok) (hil : i < L.length) (h0 : grC p L (i : Int) = 0) (hvs : validStk p L = true) :
    Calls Try.prog 19 #[.agg cs, v, .int .i64 (i : Int)] w fun e w' => e = .returned (.tuple #[.int .i64 (grV p L (i : Int)).1, .int .i64 (grV p L (i : Int)).2]) ∧ Below w.heap.size w w' := by
  have hsz := hp.size
  obtain ⟨ha, hb, hl12, hcell⟩ := vs_get hvs
  have hf0 := grC_fst p L (i : Int)
  have hsk : skC p L = 0 := by unfold skC; rw [if_pos hvs]
  rw [h0, hsk] at hf0
  have hkc := fun w' (hb' : Below w.heap.size w w') => stakeCode_any p cs v L w' hp (hU.below hb') hok
  rw [if_pos hvs] at hkc
  obtain ⟨A, cap, rfl, h1, h2, hS⟩ := hU.open
  simp only [List.length_map] at h1 hkc ⊢
  have hxi : L[i]? = some L[i] := List.getElem?_eq_getElem hil
  have hci := hcell i _ hxi
  have hoki := hok _ (List.getElem_mem hil)
  have hge : L.getD i skZ = L[i] := by simp [List.getD_eq_getElem?_getD, hxi]
  unfold grV
  rw [if_pos h0, Int.toNat_natCast, hge]
  generalize L[i] = s at *
  have hxi' : (L.map Sk.cells)[i]? = some s.cells := by simp [hxi]
  have hil' : i < (L.map Sk.cells).length := by simpa using hil
  have hro : inR ⟨s.x, s.y⟩ := isC_range hci
  have hso : (Sp.mk s.x s.y).ok := inR_ok hro
  have hyl := yardL_len2 (o := ⟨s.x, s.y⟩) ha hb hci
  have hyin : ∀ c ∈ yardL p ⟨s.x, s.y⟩, inR c := fun c h => yard_inR ha hb h
  have hyard := fun w => yard_any p cs ⟨s.x, s.y⟩ w hp ha hb hci
  have hg0 : grK p ⟨s.x, s.y⟩ i L 0 = 200 := rfl
  have hgk : ∀ k, -1 ≤ grK p ⟨s.x, s.y⟩ i L k ∧ grK p ⟨s.x, s.y⟩ i L k ≤ 200 := fun k => by
    induction k with
    | zero => simp [grK]
    | succ k ih =>
      unfold grK
      split
      · exact ih
      · exact mnF_rng hro (fun c hc => yard_inR ha hb (List.mem_filter.1 hc).1) ih.1 ih.2
  have hgs : ∀ k s', L[k]? = some s' → grK p ⟨s.x, s.y⟩ i L (k + 1) = if k = i then grK p ⟨s.x, s.y⟩ i L k else mnF ⟨s.x, s.y⟩ (cmnL (yardL p ⟨s.x, s.y⟩) (reachL p s')) (grK p ⟨s.x, s.y⟩ i L k) := fun k s' hk => by
    have e : L.getD k skZ = s' := by simp [List.getD_eq_getElem?_getD, hk]
    rw [grK, e]
  generalize grK p ⟨s.x, s.y⟩ i L = G at *
  generalize yardL p ⟨s.x, s.y⟩ = Y at *
  have hY2 : Y.length ≤ 1048576 := by omega
  have hmy : Y.length ≤ maxLen := by unfold maxLen; omega
  refine enter3 Try.func19 rfl rfl rfl (Own.start w) ?_
  repeat' (first
    | (refine s_g ?_; first
      | (refine s_k 0 rfl ?_; refine s_val rfl rfl rfl (r_move rfl rfl) ?_)
      | (refine s_k 23 rfl ?_; first | refine s_val rfl rfl rfl (r_field tb rfl rfl rfl) ?_ | refine s_val rfl rfl rfl (r_fieldS tb rfl rfl rfl) ?_)
      | (refine s_k 8 rfl ?_; first | refine s_val rfl rfl rfl (r_ldSq (j := 0) (c' := [.int .i8 s.x, .int .i8 s.y]) tb rfl hS rfl rfl hxi' rfl rfl rfl) ?_ | (refine' s_val rfl rfl rfl (r_ldv rfl rfl ?qm ?qv) ?_; (case qm => (exact zMm)); (case qv => (exact zLe))) | (refine' s_val rfl rfl rfl (r_ldo rfl rfl ?qw (by simp) ?qv) ?_; (case qw => assumption); (case qv => (exact zLe))))
      | (refine s_k 1 rfl ?_; refine s_val rfl rfl rfl (r_assign rfl rfl) ?_)
      | (refine s_k 13 rfl ?_; first | refine s_val rfl rfl rfl (r_lss rfl rfl rfl) ?_ | refine s_val rfl rfl rfl (r_eql rfl rfl rfl) ?_ | refine s_val rfl rfl rfl (r_neq rfl rfl rfl) ?_ | refine s_val rfl rfl rfl (r_add rfl rfl rfl (wrap_in (by simp only [lo, hi]; omega))) ?_ | refine s_val rfl rfl rfl (r_sub rfl rfl rfl (wrap_in (by simp only [lo, hi]; omega))) ?_)
      | (refine s_k 35 rfl ?_; first | (refine s_call Try.func104 (by kernel_rfl) rfl rfl rfl rfl rfl rfl (fun w hL => sizeSk_any _ _ _ _) ?_) | (refine s_call Try.func103 (by kernel_rfl) rfl rfl rfl rfl rfl rfl (fun w hL => to_below (within_any _ _ _ _) rfl) ?_) | (refine s_call Try.func102 (by kernel_rfl) rfl rfl rfl rfl rfl rfl (fun w hL => to_below (unless0_any _ _ _) rfl) ?_) | (refine s_call Try.func101 (by kernel_rfl) rfl rfl rfl rfl rfl rfl (fun w hL => hkc _ hL.toBelow) ?_) | (refine s_call Try.func100 (by kernel_rfl) rfl rfl rfl rfl rfl rfl (fun w hL => fo2v hf0 (hL.at_ m0)) ?_))
      | (refine s_k 25 rfl ?_; first | refine s_val rfl rfl rfl (r_ixS tb rfl hS rfl rfl rfl (by simp) hil') ?_ | refine s_val rfl rfl rfl (r_ixN tb rfl rfl rfl rfl (by omega)) ?_ | refine s_val rfl rfl rfl (r_ixA tb rfl rfl rfl rfl (by omega) (by omega)) ?_ | refine s_val rfl rfl rfl (r_ixO tb rfl rfl rfl rfl (by omega)) ?_)
      | (refine s_k 4 rfl ?_; first | refine s_boxA rfl rfl rfl rfl rfl fun blk => ?_ | refine s_box1 rfl rfl rfl rfl rfl rfl fun blk => ?_)
      | (refine s_k 9 rfl ?_; (first | refine s_st1 tb rfl rfl rfl rfl rfl rfl rfl rfl ?_ | refine s_stA tb rfl rfl rfl rfl (by first | rfl | assumption | (apply Pv.size; assumption)) rfl rfl ?_); (first | refine' st0 ?qs ?_ | refine' st1 ?qs ?_ | refine' st2 ?qs ?_ | refine' st3 ?qs ?_ | refine' st4 ?qs ?_ | refine' st5 ?qs ?_ | refine' st6 ?qs ?_ | refine' st7 ?qs ?_ | refine' st8 ?qs ?_ | refine' st9 ?qs ?_ | refine' st10 ?qs ?_ | refine' st11 ?qs ?_); (case qs => (first | exact zSet)))
      | (refine s_k 36 rfl ?_; first | refine s_val rfl rfl rfl (r_len tb rfl rfl rfl) ?_ | refine s_val rfl rfl rfl (r_min rfl rfl rfl) ?_ | refine s_val rfl rfl rfl (r_min3 rfl rfl rfl rfl) ?_)
      | (refine s_k 6 rfl ?_; refine s_bsl rfl rfl (fun w => slInt2 _ _ w) rfl rfl rfl fun blk => ?_)
      | refine s_nil ?_)
    | (refine c_g ?_; first | refine c_seq ?_ | refine c_region ?_ | (refine c_gc ?_; first | refine c_cond1 rfl zTr ?_ | refine c_cond0 rfl zTr ?_ | refine z_condd1 rfl ?_ | refine z_condd0 rfl ?_ | refine z_conddn1 rfl ?_ | refine z_conddn0 rfl ?_ | refine c_condd rfl (fun hc => ?_) (fun hc => ?_) | refine c_conddn rfl (fun hc => ?_) (fun hc => ?_) | refine c_condn rfl (fun hc => ?_) (fun hc => ?_) | refine c_cond rfl (fun hc => ?_) (fun hc => ?_)) | refine c_block ?_ | refine c_skip ?_ | refine c_exit ?_ | refine c_ret ?_)
    | (refine e_g ?_; first | refine e_then ?_ | refine e_blkn ?_ | refine e_thenx ?_ | refine e_thenr ?_ | refine e_blkr ?_ | refine e_blkx ?_ | refine e_blky rfl ?_)
    | (refine y_g ?_; first
      | (refine y_k 23 rfl ?_; first | (refine y_val rfl rfl rfl (r_field tb rfl rfl rfl) ?hp ?_; (case hp => exact rfl)) | (refine y_val rfl rfl rfl (r_fieldS tb rfl rfl rfl) ?hp ?_; (case hp => exact rfl)))
      | (refine y_k 8 rfl ?_; first | (refine y_val rfl rfl rfl (r_ldSq (j := 0) (c' := [.int .i8 s.x, .int .i8 s.y]) tb rfl hS rfl rfl hxi' rfl rfl rfl) ?hp ?_; (case hp => exact rfl)) | (refine' y_val rfl rfl rfl (r_ldv rfl rfl ?qm ?qv) ?hp ?_; (case qm => (exact zMm)); (case qv => (exact zLe)); (case hp => exact rfl)) | (refine' y_val rfl rfl rfl (r_ldo rfl rfl ?qw (by simp) ?qv) ?hp ?_; (case qw => assumption); (case qv => (exact zLe)); (case hp => exact rfl)))
      | (refine y_k 13 rfl ?_; first | (refine y_val rfl rfl rfl (r_lss rfl rfl rfl) ?hp ?_; (case hp => exact rfl)) | (refine y_val rfl rfl rfl (r_eql rfl rfl rfl) ?hp ?_; (case hp => exact rfl)) | (refine y_val rfl rfl rfl (r_neq rfl rfl rfl) ?hp ?_; (case hp => exact rfl)) | (refine y_val rfl rfl rfl (r_add rfl rfl rfl (wrap_in (by simp only [lo, hi]; omega))) ?hp ?_; (case hp => exact rfl)) | (refine y_val rfl rfl rfl (r_sub rfl rfl rfl (wrap_in (by simp only [lo, hi]; omega))) ?hp ?_; (case hp => exact rfl)))
      | (refine y_k 35 rfl ?_; first | (refine y_call Try.func104 (by kernel_rfl) rfl rfl rfl rfl rfl rfl (fun w hL => sizeSk_any _ _ _ _) ?hp ?_; (case hp => exact rfl)) | (refine y_call Try.func103 (by kernel_rfl) rfl rfl rfl rfl rfl rfl (fun w hL => to_below (within_any _ _ _ _) rfl) ?hp ?_; (case hp => exact rfl)) | (refine y_call Try.func102 (by kernel_rfl) rfl rfl rfl rfl rfl rfl (fun w hL => to_below (unless0_any _ _ _) rfl) ?hp ?_; (case hp => exact rfl)) | (refine y_call Try.func101 (by kernel_rfl) rfl rfl rfl rfl rfl rfl (fun w hL => hkc _ hL.toBelow) ?hp ?_; (case hp => exact rfl)) | (refine y_call Try.func100 (by kernel_rfl) rfl rfl rfl rfl rfl rfl (fun w hL => fo2v hf0 (hL.at_ m0)) ?hp ?_; (case hp => exact rfl)) | (refine' y_callN Try.func105 (by kernel_rfl) rfl rfl rfl rfl rfl rfl (fun w hL => hyard w) (flS_len Y) hmy ?hp (fun gy ky capy cury hAy => ?_); (case hp => exact rfl); obtain rfl := hAy.cnt))
      | (refine y_k 25 rfl ?_; first | (refine y_val rfl rfl rfl (r_ixS tb rfl hS rfl rfl rfl (by simp) hil') ?hp ?_; (case hp => exact rfl)) | (refine y_val rfl rfl rfl (r_ixN tb rfl rfl rfl rfl (by omega)) ?hp ?_; (case hp => exact rfl)) | (refine y_val rfl rfl rfl (r_ixA tb rfl rfl rfl rfl (by omega) (by omega)) ?hp ?_; (case hp => exact rfl)) | (refine y_val rfl rfl rfl (r_ixO tb rfl rfl rfl rfl (by omega)) ?hp ?_; (case hp => exact rfl)))
      | (refine y_k 36 rfl ?_; first | (refine y_val rfl rfl rfl (r_len tb rfl rfl rfl) ?hp ?_; (case hp => exact rfl)) | (refine y_val rfl rfl rfl (r_min rfl rfl rfl) ?hp ?_; (case hp => exact rfl)) | (refine y_val rfl rfl rfl (r_min3 rfl rfl rfl rfl) ?hp ?_; (case hp => exact rfl)))
      | refine y_nil0 ?_
      | refine y_nil ?_
      | (refine' y_k 0 rfl ?_; (refine' y_move rfl rfl rfl rfl rfl ?hp ?_; (case hp => exact rfl)))
      | (refine' y_k 1 rfl ?_; (refine' y_assign rfl rfl rfl rfl rfl ?hp ?_; (case hp => exact rfl)))
      | (refine' y_k 6 rfl ?_; (refine' y_bsl rfl rfl (fun w => slInt2 _ _ w) rfl rfl rfl ?hp (fun blk => ?_); (case hp => exact rfl))))
    | (refine' c_drawY (id := 5) [(Sum.inl _ : CalmB.Plan), (Sum.inl _ : CalmB.Plan), (Sum.inl _ : CalmB.Plan), (Sum.inl _ : CalmB.Plan), (Sum.inl _ : CalmB.Plan), (Sum.inl _ : CalmB.Plan), (Sum.inr _ : CalmB.Plan), (Sum.inl _ : CalmB.Plan)] (by kernel_rfl) (by kernel_rfl) ?_))
  rename_i b3
  refine c_loop (ι := Nat) (fun k => L.length - k) (fun k => k ≤ L.length) (fun k => [(38, .int .i64 (k : Int)), (37, .int .i64 (L.length : Int)), (36, .slice A L.length cap), (10, .slice (some ⟨gy, 0, none⟩) Y.length capy), (9, .int .i64 (G k)), (1, .slice A L.length cap), (2, .int .i64 (i : Int)), (3, .pointer (some ⟨b3, 0, none⟩))]) (fun k => [(gy, 88, cury), (blk, 2, #[.int .i64 0, .int .i64 (if inB (i : Int) 0 ((L.length : Int) - 1) then 0 else 2)]), (b3, 34, cs)]) 0 (by omega) ?hs rfl ?_
  case hs => rw [hg0]; (repeat' (first | exact sub_nil | refine sub_cons rfl ?_))
  rintro k hk
  by_cases hlt : k < L.length
  · have hx : L[k]? = some L[k] := List.getElem?_eq_getElem hlt
    have hck := hcell k _ hx
    have hokk := hok _ (List.getElem_mem hlt)
    have hGs := hgs k _ hx
    generalize L[k] = t at *
    have hx' : (L.map Sk.cells)[k]? = some t.cells := by simp [hx]
    have hlt' : k < (L.map Sk.cells).length := by simpa using hlt
    by_cases hki : k = i
    · rw [if_pos hki] at hGs
      have hki2 : (k : Int) = (i : Int) := by omega
      repeat' (first
        | (refine s_g ?_; first
      | (refine s_k 0 rfl ?_; refine s_val rfl rfl rfl (r_move rfl rfl) ?_)
      | (refine s_k 23 rfl ?_; first | refine s_val rfl rfl rfl (r_field tb rfl rfl rfl) ?_ | refine s_val rfl rfl rfl (r_fieldS tb rfl rfl rfl) ?_)
      | (refine s_k 8 rfl ?_; first | refine s_val rfl rfl rfl (r_ldS tb rfl hS rfl hx' rfl) ?_ | (refine' s_val rfl rfl rfl (r_ldv rfl rfl ?qm ?qv) ?_; (case qm => (exact zMm)); (case qv => (exact zLe))) | (refine' s_val rfl rfl rfl (r_ldo rfl rfl ?qw (by simp) ?qv) ?_; (case qw => assumption); (case qv => (exact zLe))))
      | (refine s_k 1 rfl ?_; refine s_val rfl rfl rfl (r_assign rfl rfl) ?_)
      | (refine s_k 13 rfl ?_; first | refine s_val rfl rfl rfl (r_lss rfl rfl rfl) ?_ | refine s_val rfl rfl rfl (r_eql rfl rfl rfl) ?_ | refine s_val rfl rfl rfl (r_neq rfl rfl rfl) ?_ | refine s_val rfl rfl rfl (r_add rfl rfl rfl (wrap_in (by simp only [lo, hi]; omega))) ?_ | refine s_val rfl rfl rfl (r_sub rfl rfl rfl (wrap_in (by simp only [lo, hi]; omega))) ?_)
      | (refine s_k 25 rfl ?_; first | refine s_val rfl rfl rfl (r_ixS tb rfl hS rfl rfl rfl (by simp) hlt') ?_ | refine s_val rfl rfl rfl (r_ixN tb rfl rfl rfl rfl (by omega)) ?_ | refine s_val rfl rfl rfl (r_ixA tb rfl rfl rfl rfl (by omega) (by omega)) ?_ | refine s_val rfl rfl rfl (r_ixO tb rfl rfl rfl rfl (by omega)) ?_)
      | (refine s_k 4 rfl ?_; first | refine s_boxA rfl rfl rfl rfl rfl fun blk => ?_ | refine s_box1 rfl rfl rfl rfl rfl rfl fun blk => ?_)
      | (refine s_k 9 rfl ?_; (first | refine s_st1 tb rfl rfl rfl rfl rfl rfl rfl rfl ?_ | refine s_stA tb rfl rfl rfl rfl (by first | rfl | assumption | (apply Pv.size; assumption)) rfl rfl ?_); (first | refine' st0 ?qs ?_ | refine' st1 ?qs ?_ | refine' st2 ?qs ?_ | refine' st3 ?qs ?_ | refine' st4 ?qs ?_ | refine' st5 ?qs ?_ | refine' st6 ?qs ?_ | refine' st7 ?qs ?_ | refine' st8 ?qs ?_ | refine' st9 ?qs ?_ | refine' st10 ?qs ?_ | refine' st11 ?qs ?_); (case qs => (first | exact set_whole (vs := t.cells.toArray) rfl (by simp [Sk.cells, Value.oneCell']) | exact zSet)))
      | (refine s_k 3 rfl ?_; refine s_allocA (t := 132) rfl zImplStk rfl rfl rfl fun blk => ?_)
      | (refine s_k 36 rfl ?_; first | refine s_val rfl rfl rfl (r_len tb rfl rfl rfl) ?_ | refine s_val rfl rfl rfl (r_min rfl rfl rfl) ?_ | refine s_val rfl rfl rfl (r_min3 rfl rfl rfl rfl) ?_)
      | refine s_nil ?_)
        | (refine c_g ?_; first | refine c_seq ?_ | refine c_region ?_ | (refine c_gc ?_; first | refine c_cond1 rfl zTr ?_ | refine c_cond0 rfl zTr ?_ | refine z_condd1 rfl ?_ | refine z_condd0 rfl ?_ | refine z_conddn1 rfl ?_ | refine z_conddn0 rfl ?_ | refine c_condd rfl (fun hc => ?_) (fun hc => ?_) | refine c_conddn rfl (fun hc => ?_) (fun hc => ?_) | refine c_condn rfl (fun hc => ?_) (fun hc => ?_) | refine c_cond rfl (fun hc => ?_) (fun hc => ?_)) | refine c_block ?_ | refine c_skip ?_ | refine c_exit ?_ | refine c_ret ?_)
        | (refine e_g ?_; first | refine e_then ?_ | refine e_blkn ?_ | refine e_thenx ?_ | refine e_thenr ?_ | refine e_blkr ?_ | refine e_blkx ?_ | refine e_blky rfl ?_)
        | (refine e_drop0 (e_round (k + 1) (by omega) (by omega) ?_ rfl); rw [hGs]; (repeat' (first | exact sub_nil | refine sub_cons rfl ?_))))
    · rw [if_neg hki] at hGs
      have hki2 : ¬ (k : Int) = (i : Int) := by omega
      have hrl := reachL_len (s := t) ha hb hck
      have hreach := fun w => reach_any p cs t w hp hokk ha hb hck
      have hGk := hgk k
      generalize reachL p t = R at *
      have hR2 : R.length ≤ 1048576 := by omega
      have hcl : (cmnL Y R).length ≤ 100 := Nat.le_trans (List.length_filter_le _ _) hyl
      have hcin : ∀ c ∈ cmnL Y R, inR c := fun c hc => hyin c (List.mem_filter.1 hc).1
      have hcomm := fun (ga gb na nb capa capb : Nat) (cura curb : Array Value) (Ta Tb : TypeId) (w : World) hA hga hB hgb => common_any Y R ga gb na nb capa capb cura curb Ta Tb w hA hga hB hgb hY2 hR2
      generalize cmnL Y R = Cm at *
      repeat' (first
        | (refine s_g ?_; first
      | (refine s_k 0 rfl ?_; refine s_val rfl rfl rfl (r_move rfl rfl) ?_)
      | (refine s_k 23 rfl ?_; first | refine s_val rfl rfl rfl (r_field tb rfl rfl rfl) ?_ | refine s_val rfl rfl rfl (r_fieldS tb rfl rfl rfl) ?_)
      | (refine s_k 8 rfl ?_; first | refine s_val rfl rfl rfl (r_ldS tb rfl hS rfl hx' rfl) ?_ | (refine' s_val rfl rfl rfl (r_ldv rfl rfl ?qm ?qv) ?_; (case qm => (exact zMm)); (case qv => (exact zLe))) | (refine' s_val rfl rfl rfl (r_ldo rfl rfl ?qw (by simp) ?qv) ?_; (case qw => assumption); (case qv => (exact zLe))))
      | (refine s_k 1 rfl ?_; refine s_val rfl rfl rfl (r_assign rfl rfl) ?_)
      | (refine s_k 13 rfl ?_; first | refine s_val rfl rfl rfl (r_lss rfl rfl rfl) ?_ | refine s_val rfl rfl rfl (r_eql rfl rfl rfl) ?_ | refine s_val rfl rfl rfl (r_neq rfl rfl rfl) ?_ | refine s_val rfl rfl rfl (r_add rfl rfl rfl (wrap_in (by simp only [lo, hi]; omega))) ?_ | refine s_val rfl rfl rfl (r_sub rfl rfl rfl (wrap_in (by simp only [lo, hi]; omega))) ?_)
      | (refine s_k 35 rfl ?_; first | (refine s_callN Try.func107 (by kernel_rfl) rfl rfl rfl rfl rfl rfl (fun w hL => hreach w) fun gr kr capr curr hAr => ?_; obtain rfl := hAr.cnt) | (refine s_callN Try.func106 (by kernel_rfl) rfl rfl rfl rfl rfl rfl (fun w hL => hcomm _ _ _ _ _ _ _ _ _ _ w hAy (hL.at_ m2) hAr (hL.at_ m0)) fun gc kc capc curc hAc => ?_; obtain rfl := hAc.cnt))
      | (refine s_k 25 rfl ?_; first | refine s_val rfl rfl rfl (r_ixS tb rfl hS rfl rfl rfl (by simp) hlt') ?_ | refine s_val rfl rfl rfl (r_ixN tb rfl rfl rfl rfl (by omega)) ?_ | refine s_val rfl rfl rfl (r_ixA tb rfl rfl rfl rfl (by omega) (by omega)) ?_ | refine s_val rfl rfl rfl (r_ixO tb rfl rfl rfl rfl (by omega)) ?_)
      | (refine s_k 4 rfl ?_; first | refine s_boxA rfl rfl rfl rfl rfl fun blk => ?_ | refine s_box1 rfl rfl rfl rfl rfl rfl fun blk => ?_)
      | (refine s_k 9 rfl ?_; (first | refine s_st1 tb rfl rfl rfl rfl rfl rfl rfl rfl ?_ | refine s_stA tb rfl rfl rfl rfl (by first | rfl | assumption | (apply Pv.size; assumption)) rfl rfl ?_); (first | refine' st0 ?qs ?_ | refine' st1 ?qs ?_ | refine' st2 ?qs ?_ | refine' st3 ?qs ?_ | refine' st4 ?qs ?_ | refine' st5 ?qs ?_ | refine' st6 ?qs ?_ | refine' st7 ?qs ?_ | refine' st8 ?qs ?_ | refine' st9 ?qs ?_ | refine' st10 ?qs ?_ | refine' st11 ?qs ?_); (case qs => (first | exact set_whole (vs := t.cells.toArray) rfl (by simp [Sk.cells, Value.oneCell']) | exact zSet)))
      | (refine s_k 3 rfl ?_; refine s_allocA (t := 132) rfl zImplStk rfl rfl rfl fun blk => ?_)
      | (refine s_k 36 rfl ?_; first | refine s_val rfl rfl rfl (r_len tb rfl rfl rfl) ?_ | refine s_val rfl rfl rfl (r_min rfl rfl rfl) ?_ | refine s_val rfl rfl rfl (r_min3 rfl rfl rfl rfl) ?_)
      | refine s_nil ?_)
        | (refine c_g ?_; first | refine c_seq ?_ | refine c_region ?_ | (refine c_gc ?_; first | refine c_cond1 rfl zTr ?_ | refine c_cond0 rfl zTr ?_ | refine z_condd1 rfl ?_ | refine z_condd0 rfl ?_ | refine z_conddn1 rfl ?_ | refine z_conddn0 rfl ?_ | refine c_condd rfl (fun hc => ?_) (fun hc => ?_) | refine c_conddn rfl (fun hc => ?_) (fun hc => ?_) | refine c_condn rfl (fun hc => ?_) (fun hc => ?_) | refine c_cond rfl (fun hc => ?_) (fun hc => ?_)) | refine c_block ?_ | refine c_skip ?_ | refine c_exit ?_ | refine c_ret ?_)
        | (refine e_g ?_; first | refine e_then ?_ | refine e_blkn ?_ | refine e_thenx ?_ | refine e_thenr ?_ | refine e_blkr ?_ | refine e_blkx ?_ | refine e_blky rfl ?_))
      rename_i b24
      refine c_loop (ι := Nat) (fun j => Cm.length - j) (fun j => j ≤ Cm.length) (fun j => [(52, .int .i64 (j : Int)), (51, .int .i64 (Cm.length : Int)), (50, .slice (some ⟨gc, 0, none⟩) Cm.length capc), (38, .int .i64 (k : Int)), (37, .int .i64 (L.length : Int)), (36, .slice A L.length cap), (10, .slice (some ⟨gy, 0, none⟩) Y.length capy), (9, .int .i64 (mnF ⟨s.x, s.y⟩ (Cm.take j) (G k))), (1, .slice A L.length cap), (2, .int .i64 (i : Int)), (3, .pointer (some ⟨b3, 0, none⟩))]) (fun j => [(gc, 88, curc), (gr, 88, curr), (blk, 132, t.cells.toArray), (gy, 88, cury), (b24, 2, #[.int .i64 0, .int .i64 (if inB (i : Int) 0 ((L.length : Int) - 1) then 0 else 2)]), (b3, 34, cs)]) 0 (by omega) ?hs rfl ?_
      case hs => (repeat' (first | exact sub_nil | refine sub_cons rfl ?_))
      rintro j hj
      by_cases hjl : j < Cm.length
      · have hxj : Cm[j]? = some Cm[j] := List.getElem?_eq_getElem hjl
        have hcr := hcin _ (List.getElem_mem hjl)
        have hsp := hAc.spot hxj
        have hms := mnF_succ (o := ⟨s.x, s.y⟩) (b := G k) hxj
        generalize Cm[j] = c at *
        have hcok := inR_ok hcr
        have hsq := sq_in hro hcr
        repeat' (first
          | (refine s_g ?_; first
      | (refine s_k 0 rfl ?_; refine s_val rfl rfl rfl (r_move rfl rfl) ?_)
      | (refine s_k 23 rfl ?_; first | refine s_val rfl rfl rfl (r_field tb rfl rfl rfl) ?_ | refine s_val rfl rfl rfl (r_fieldS tb rfl rfl rfl) ?_)
      | (refine s_k 8 rfl ?_; first | refine s_val rfl rfl rfl (r_ldSq (j := 0) (c' := [.int .i8 s.x, .int .i8 s.y]) tb rfl hS rfl rfl hxi' rfl rfl rfl) ?_ | refine s_val rfl rfl rfl (r_ldN tb rfl rfl m0 rfl hsp.1 hsp.2) ?_ | (refine' s_val rfl rfl rfl (r_ldv rfl rfl ?qm ?qv) ?_; (case qm => (exact zMm)); (case qv => (exact zLe))) | (refine' s_val rfl rfl rfl (r_ldo rfl rfl ?qw (by simp) ?qv) ?_; (case qw => assumption); (case qv => (exact zLe))))
      | (refine s_k 1 rfl ?_; refine s_val rfl rfl rfl (r_assign rfl rfl) ?_)
      | (refine s_k 13 rfl ?_; first | refine s_val rfl rfl rfl (r_lss rfl rfl rfl) ?_ | refine s_val rfl rfl rfl (r_eql rfl rfl rfl) ?_ | refine s_val rfl rfl rfl (r_neq rfl rfl rfl) ?_ | refine s_val rfl rfl rfl (r_add rfl rfl rfl (wrap_in (by simp only [lo, hi]; omega))) ?_ | refine s_val rfl rfl rfl (r_sub rfl rfl rfl (wrap_in (by simp only [lo, hi]; omega))) ?_)
      | (refine s_k 35 rfl ?_; (refine s_call Try.func108 (by kernel_rfl) rfl rfl rfl rfl rfl rfl (fun w hL => implSquareOf_any ⟨s.x, s.y⟩ c _ hso hcok) ?_))
      | (refine s_k 25 rfl ?_; first | refine s_val rfl rfl rfl (r_ixS tb rfl hS rfl rfl rfl (by simp) hil') ?_ | refine s_val rfl rfl rfl (r_ixO tb rfl rfl rfl rfl hjl) ?_ | refine s_val rfl rfl rfl (r_ixN tb rfl rfl rfl rfl (by omega)) ?_ | refine s_val rfl rfl rfl (r_ixA tb rfl rfl rfl rfl (by omega) (by omega)) ?_ | refine s_val rfl rfl rfl (r_ixO tb rfl rfl rfl rfl (by omega)) ?_)
      | (refine s_k 4 rfl ?_; first | refine s_boxA rfl rfl rfl rfl rfl fun blk => ?_ | refine s_box1 rfl rfl rfl rfl rfl rfl fun blk => ?_)
      | (refine s_k 9 rfl ?_; (first | refine s_st1 tb rfl rfl rfl rfl rfl rfl rfl rfl ?_ | refine s_stA tb rfl rfl rfl rfl (by first | rfl | assumption | (apply Pv.size; assumption)) rfl rfl ?_); (first | refine' st0 ?qs ?_ | refine' st1 ?qs ?_ | refine' st2 ?qs ?_ | refine' st3 ?qs ?_ | refine' st4 ?qs ?_ | refine' st5 ?qs ?_ | refine' st6 ?qs ?_ | refine' st7 ?qs ?_ | refine' st8 ?qs ?_ | refine' st9 ?qs ?_ | refine' st10 ?qs ?_ | refine' st11 ?qs ?_); (case qs => (first | exact set_whole (vs := #[.int .i8 c.x, .int .i8 c.y]) rfl (by simp [Value.oneCell']) | exact zSet)))
      | (refine s_k 3 rfl ?_; refine s_allocA (t := 88) rfl zImplSpot rfl rfl rfl fun blk => ?_)
      | (refine s_k 36 rfl ?_; first | refine s_val rfl rfl rfl (r_len tb rfl rfl rfl) ?_ | refine s_val rfl rfl rfl (r_min rfl rfl rfl) ?_ | refine s_val rfl rfl rfl (r_min3 rfl rfl rfl rfl) ?_)
      | refine s_nil ?_)
          | (refine c_g ?_; first | refine c_seq ?_ | refine c_region ?_ | (refine c_gc ?_; first | refine c_cond1 rfl zTr ?_ | refine c_cond0 rfl zTr ?_ | refine z_condd1 rfl ?_ | refine z_condd0 rfl ?_ | refine z_conddn1 rfl ?_ | refine z_conddn0 rfl ?_ | refine c_condd rfl (fun hc => ?_) (fun hc => ?_) | refine c_conddn rfl (fun hc => ?_) (fun hc => ?_) | refine c_condn rfl (fun hc => ?_) (fun hc => ?_) | refine c_cond rfl (fun hc => ?_) (fun hc => ?_)) | refine c_block ?_ | refine c_skip ?_ | refine c_exit ?_ | refine c_ret ?_)
          | (refine e_g ?_; first | refine e_then ?_ | refine e_blkn ?_ | refine e_thenx ?_ | refine e_thenr ?_ | refine e_blkr ?_ | refine e_blkx ?_ | refine e_blky rfl ?_)
          | (refine x_g ?_; first
      | (refine x_k 0 rfl ?_; (refine x_val rfl rfl rfl (r_move rfl rfl) ?hp ?_; (case hp => exact rfl)))
      | (refine x_k 23 rfl ?_; first | (refine x_val rfl rfl rfl (r_field tb rfl rfl rfl) ?hp ?_; (case hp => exact rfl)) | (refine x_val rfl rfl rfl (r_fieldS tb rfl rfl rfl) ?hp ?_; (case hp => exact rfl)))
      | (refine x_k 8 rfl ?_; first | (refine x_val rfl rfl rfl (r_ldSq (j := 0) (c' := [.int .i8 s.x, .int .i8 s.y]) tb rfl hS rfl rfl hxi' rfl rfl rfl) ?hp ?_; (case hp => exact rfl)) | (refine x_val rfl rfl rfl (r_ldN tb rfl rfl m0 rfl hsp.1 hsp.2) ?hp ?_; (case hp => exact rfl)) | (refine' x_val rfl rfl rfl (r_ldv rfl rfl ?qm ?qv) ?hp ?_; (case qm => (exact zMm)); (case qv => (exact zLe)); (case hp => exact rfl)) | (refine' x_val rfl rfl rfl (r_ldo rfl rfl ?qw (by simp) ?qv) ?hp ?_; (case qw => assumption); (case qv => (exact zLe)); (case hp => exact rfl)))
      | (refine x_k 1 rfl ?_; (refine x_val rfl rfl rfl (r_assign rfl rfl) ?hp ?_; (case hp => exact rfl)))
      | (refine x_k 13 rfl ?_; first | (refine x_val rfl rfl rfl (r_lss rfl rfl rfl) ?hp ?_; (case hp => exact rfl)) | (refine x_val rfl rfl rfl (r_eql rfl rfl rfl) ?hp ?_; (case hp => exact rfl)) | (refine x_val rfl rfl rfl (r_neq rfl rfl rfl) ?hp ?_; (case hp => exact rfl)) | (refine x_val rfl rfl rfl (r_add rfl rfl rfl (wrap_in (by simp only [lo, hi]; omega))) ?hp ?_; (case hp => exact rfl)) | (refine x_val rfl rfl rfl (r_sub rfl rfl rfl (wrap_in (by simp only [lo, hi]; omega))) ?hp ?_; (case hp => exact rfl)))
      | (refine x_k 35 rfl ?_; (refine x_call Try.func108 (by kernel_rfl) rfl rfl rfl rfl rfl rfl (fun w hL => implSquareOf_any ⟨s.x, s.y⟩ c _ hso hcok) ?hp ?_; (case hp => exact rfl)))
      | (refine x_k 25 rfl ?_; first | (refine x_val rfl rfl rfl (r_ixS tb rfl hS rfl rfl rfl (by simp) hil') ?hp ?_; (case hp => exact rfl)) | (refine x_val rfl rfl rfl (r_ixO tb rfl rfl rfl rfl hjl) ?hp ?_; (case hp => exact rfl)) | (refine x_val rfl rfl rfl (r_ixN tb rfl rfl rfl rfl (by omega)) ?hp ?_; (case hp => exact rfl)) | (refine x_val rfl rfl rfl (r_ixA tb rfl rfl rfl rfl (by omega) (by omega)) ?hp ?_; (case hp => exact rfl)) | (refine x_val rfl rfl rfl (r_ixO tb rfl rfl rfl rfl (by omega)) ?hp ?_; (case hp => exact rfl)))
      | (refine x_k 4 rfl ?_; (refine x_boxA rfl rfl rfl rfl rfl ?hp (fun blk => ?_); (case hp => exact rfl)))
      | (refine x_k 9 rfl ?_; first | (refine' x_putA0 tb rfl rfl rfl rfl (by first | rfl | assumption | (apply Pv.size; assumption)) ?qs (by first | rfl | assumption | (apply Pv.size; assumption)) rfl rfl ?hp ?_; (case qs => (first | exact set_whole (vs := #[.int .i8 c.x, .int .i8 c.y]) rfl (by simp [Value.oneCell']) | exact zSet)); (case hp => exact rfl)) | (refine' x_putA1 tb rfl rfl rfl rfl (by first | rfl | assumption | (apply Pv.size; assumption)) ?qs (by first | rfl | assumption | (apply Pv.size; assumption)) rfl rfl ?hp ?_; (case qs => (first | exact set_whole (vs := #[.int .i8 c.x, .int .i8 c.y]) rfl (by simp [Value.oneCell']) | exact zSet)); (case hp => exact rfl)) | (refine' x_putA2 tb rfl rfl rfl rfl (by first | rfl | assumption | (apply Pv.size; assumption)) ?qs (by first | rfl | assumption | (apply Pv.size; assumption)) rfl rfl ?hp ?_; (case qs => (first | exact set_whole (vs := #[.int .i8 c.x, .int .i8 c.y]) rfl (by simp [Value.oneCell']) | exact zSet)); (case hp => exact rfl)))
      | (refine x_k 3 rfl ?_; (refine x_allocA (t := 88) rfl zImplSpot rfl rfl rfl ?hp (fun blk => ?_); (case hp => exact rfl)))
      | (refine x_k 36 rfl ?_; first | (refine x_val rfl rfl rfl (r_len tb rfl rfl rfl) ?hp ?_; (case hp => exact rfl)) | (refine x_val rfl rfl rfl (r_min rfl rfl rfl) ?hp ?_; (case hp => exact rfl)) | (refine x_val rfl rfl rfl (r_min3 rfl rfl rfl rfl) ?hp ?_; (case hp => exact rfl)))
      | refine x_nil0 ?_
      | refine x_nil ?_)
          | (refine' c_drawX (id := 13) [(Sum.inl _ : Calm.Plan), (Sum.inl _ : Calm.Plan), (Sum.inl _ : Calm.Plan), (Sum.inl _ : Calm.Plan), (Sum.inl _ : Calm.Plan), (Sum.inl _ : Calm.Plan), (Sum.inl _ : Calm.Plan), (Sum.inl _ : Calm.Plan), (Sum.inl _ : Calm.Plan), (Sum.inl _ : Calm.Plan), (Sum.inl _ : Calm.Plan)] (by kernel_rfl) (by kernel_rfl) (by kernel_rfl) ?_)
          | (refine e_drop0 (e_round (j + 1) (by omega) (by omega) ?_ rfl); rw [hms]; (repeat' (first | exact sub_nil | refine sub_cons rfl ?_))))
      · have hjk : j = Cm.length := by omega
        subst hjk
        rw [List.take_length]
        repeat' (first
          | (refine s_g ?_; first
      | (refine s_k 0 rfl ?_; refine s_val rfl rfl rfl (r_move rfl rfl) ?_)
      | (refine s_k 23 rfl ?_; first | refine s_val rfl rfl rfl (r_field tb rfl rfl rfl) ?_ | refine s_val rfl rfl rfl (r_fieldS tb rfl rfl rfl) ?_)
      | (refine s_k 8 rfl ?_; first | (refine' s_val rfl rfl rfl (r_ldv rfl rfl ?qm ?qv) ?_; (case qm => (exact zMm)); (case qv => (exact zLe))) | (refine' s_val rfl rfl rfl (r_ldo rfl rfl ?qw (by simp) ?qv) ?_; (case qw => assumption); (case qv => (exact zLe))))
      | (refine s_k 1 rfl ?_; refine s_val rfl rfl rfl (r_assign rfl rfl) ?_)
      | (refine s_k 13 rfl ?_; first | refine s_val rfl rfl rfl (r_lss rfl rfl rfl) ?_ | refine s_val rfl rfl rfl (r_eql rfl rfl rfl) ?_ | refine s_val rfl rfl rfl (r_neq rfl rfl rfl) ?_ | refine s_val rfl rfl rfl (r_add rfl rfl rfl (wrap_in (by simp only [lo, hi]; omega))) ?_ | refine s_val rfl rfl rfl (r_sub rfl rfl rfl (wrap_in (by simp only [lo, hi]; omega))) ?_)
      | (refine s_k 25 rfl ?_; first | refine s_val rfl rfl rfl (r_ixN tb rfl rfl rfl rfl (by omega)) ?_ | refine s_val rfl rfl rfl (r_ixA tb rfl rfl rfl rfl (by omega) (by omega)) ?_ | refine s_val rfl rfl rfl (r_ixO tb rfl rfl rfl rfl (by omega)) ?_)
      | (refine s_k 4 rfl ?_; first | refine s_boxA rfl rfl rfl rfl rfl fun blk => ?_ | refine s_box1 rfl rfl rfl rfl rfl rfl fun blk => ?_)
      | (refine s_k 9 rfl ?_; (first | refine s_st1 tb rfl rfl rfl rfl rfl rfl rfl rfl ?_ | refine s_stA tb rfl rfl rfl rfl (by first | rfl | assumption | (apply Pv.size; assumption)) rfl rfl ?_); (first | refine' st0 ?qs ?_ | refine' st1 ?qs ?_ | refine' st2 ?qs ?_ | refine' st3 ?qs ?_ | refine' st4 ?qs ?_ | refine' st5 ?qs ?_ | refine' st6 ?qs ?_ | refine' st7 ?qs ?_ | refine' st8 ?qs ?_ | refine' st9 ?qs ?_ | refine' st10 ?qs ?_ | refine' st11 ?qs ?_); (case qs => (first | exact zSet)))
      | (refine s_k 36 rfl ?_; first | refine s_val rfl rfl rfl (r_len tb rfl rfl rfl) ?_ | refine s_val rfl rfl rfl (r_min rfl rfl rfl) ?_ | refine s_val rfl rfl rfl (r_min3 rfl rfl rfl rfl) ?_)
      | refine s_nil ?_)
          | (refine c_g ?_; first | refine c_seq ?_ | refine c_region ?_ | (refine c_gc ?_; first | refine c_cond1 rfl zTr ?_ | refine c_cond0 rfl zTr ?_ | refine z_condd1 rfl ?_ | refine z_condd0 rfl ?_ | refine z_conddn1 rfl ?_ | refine z_conddn0 rfl ?_ | refine c_condd rfl (fun hc => ?_) (fun hc => ?_) | refine c_conddn rfl (fun hc => ?_) (fun hc => ?_) | refine c_condn rfl (fun hc => ?_) (fun hc => ?_) | refine c_cond rfl (fun hc => ?_) (fun hc => ?_)) | refine c_block ?_ | refine c_skip ?_ | refine c_exit ?_ | refine c_ret ?_)
          | (refine e_g ?_; first | refine e_then ?_ | refine e_blkn ?_ | refine e_thenx ?_ | refine e_thenr ?_ | refine e_blkr ?_ | refine e_blkx ?_ | refine e_blky rfl ?_)
          | (refine e_drop0 (e_drop0 (e_drop0 (e_round (k + 1) (by omega) (by omega) ?_ rfl))); rw [hGs]; (repeat' (first | exact sub_nil | refine sub_cons rfl ?_))))
  · have hkl : k = L.length := by omega
    subst hkl
    by_cases hneg : G L.length < 0
    · rw [if_pos hneg]
      repeat' (first
        | (refine s_g ?_; first
      | (refine s_k 0 rfl ?_; refine s_val rfl rfl rfl (r_move rfl rfl) ?_)
      | (refine s_k 23 rfl ?_; first | refine s_val rfl rfl rfl (r_field tb rfl rfl rfl) ?_ | refine s_val rfl rfl rfl (r_fieldS tb rfl rfl rfl) ?_)
      | (refine s_k 8 rfl ?_; first | (refine' s_val rfl rfl rfl (r_ldv rfl rfl ?qm ?qv) ?_; (case qm => (exact zMm)); (case qv => (exact zLe))) | (refine' s_val rfl rfl rfl (r_ldo rfl rfl ?qw (by simp) ?qv) ?_; (case qw => assumption); (case qv => (exact zLe))))
      | (refine s_k 1 rfl ?_; refine s_val rfl rfl rfl (r_assign rfl rfl) ?_)
      | (refine s_k 13 rfl ?_; first | refine s_val rfl rfl rfl (r_lss rfl rfl rfl) ?_ | refine s_val rfl rfl rfl (r_eql rfl rfl rfl) ?_ | refine s_val rfl rfl rfl (r_neq rfl rfl rfl) ?_ | refine s_val rfl rfl rfl (r_add rfl rfl rfl (wrap_in (by simp only [lo, hi]; omega))) ?_ | refine s_val rfl rfl rfl (r_sub rfl rfl rfl (wrap_in (by simp only [lo, hi]; omega))) ?_)
      | (refine s_k 25 rfl ?_; first | refine s_val rfl rfl rfl (r_ixN tb rfl rfl rfl rfl (by omega)) ?_ | refine s_val rfl rfl rfl (r_ixA tb rfl rfl rfl rfl (by omega) (by omega)) ?_ | refine s_val rfl rfl rfl (r_ixO tb rfl rfl rfl rfl (by omega)) ?_)
      | (refine s_k 4 rfl ?_; first | refine s_boxA rfl rfl rfl rfl rfl fun blk => ?_ | refine s_box1 rfl rfl rfl rfl rfl rfl fun blk => ?_)
      | (refine s_k 9 rfl ?_; (first | refine s_st1 tb rfl rfl rfl rfl rfl rfl rfl rfl ?_ | refine s_stA tb rfl rfl rfl rfl (by first | rfl | assumption | (apply Pv.size; assumption)) rfl rfl ?_); (first | refine' st0 ?qs ?_ | refine' st1 ?qs ?_ | refine' st2 ?qs ?_ | refine' st3 ?qs ?_ | refine' st4 ?qs ?_ | refine' st5 ?qs ?_ | refine' st6 ?qs ?_ | refine' st7 ?qs ?_ | refine' st8 ?qs ?_ | refine' st9 ?qs ?_ | refine' st10 ?qs ?_ | refine' st11 ?qs ?_); (case qs => (first | exact zSet)))
      | (refine s_k 36 rfl ?_; first | refine s_val rfl rfl rfl (r_len tb rfl rfl rfl) ?_ | refine s_val rfl rfl rfl (r_min rfl rfl rfl) ?_ | refine s_val rfl rfl rfl (r_min3 rfl rfl rfl rfl) ?_)
      | refine s_nil ?_)
        | (refine c_g ?_; first | refine c_seq ?_ | refine c_region ?_ | (refine c_gc ?_; first | refine c_cond1 rfl zTr ?_ | refine c_cond0 rfl zTr ?_ | refine z_condd1 rfl ?_ | refine z_condd0 rfl ?_ | refine z_conddn1 rfl ?_ | refine z_conddn0 rfl ?_ | refine c_condd rfl (fun hc => ?_) (fun hc => ?_) | refine c_conddn rfl (fun hc => ?_) (fun hc => ?_) | refine c_condn rfl (fun hc => ?_) (fun hc => ?_) | refine c_cond rfl (fun hc => ?_) (fun hc => ?_)) | refine c_block ?_ | refine c_skip ?_ | refine c_exit ?_ | refine c_ret ?_)
        | (refine e_g ?_; first | refine e_then ?_ | refine e_blkn ?_ | refine e_thenx ?_ | refine e_thenr ?_ | refine e_blkr ?_ | refine e_blkx ?_ | refine e_blky rfl ?_)
        | (refine e_ret2 (by simp) rfl (re_tmp rfl) (re_tmp rfl) fun w hL => ⟨rfl, hL.toBelow⟩))
    · rw [if_neg hneg]
      repeat' (first
        | (refine s_g ?_; first
      | (refine s_k 0 rfl ?_; refine s_val rfl rfl rfl (r_move rfl rfl) ?_)
      | (refine s_k 23 rfl ?_; first | refine s_val rfl rfl rfl (r_field tb rfl rfl rfl) ?_ | refine s_val rfl rfl rfl (r_fieldS tb rfl rfl rfl) ?_)
      | (refine s_k 8 rfl ?_; first | (refine' s_val rfl rfl rfl (r_ldv rfl rfl ?qm ?qv) ?_; (case qm => (exact zMm)); (case qv => (exact zLe))) | (refine' s_val rfl rfl rfl (r_ldo rfl rfl ?qw (by simp) ?qv) ?_; (case qw => assumption); (case qv => (exact zLe))))
      | (refine s_k 1 rfl ?_; refine s_val rfl rfl rfl (r_assign rfl rfl) ?_)
      | (refine s_k 13 rfl ?_; first | refine s_val rfl rfl rfl (r_lss rfl rfl rfl) ?_ | refine s_val rfl rfl rfl (r_eql rfl rfl rfl) ?_ | refine s_val rfl rfl rfl (r_neq rfl rfl rfl) ?_ | refine s_val rfl rfl rfl (r_add rfl rfl rfl (wrap_in (by simp only [lo, hi]; omega))) ?_ | refine s_val rfl rfl rfl (r_sub rfl rfl rfl (wrap_in (by simp only [lo, hi]; omega))) ?_)
      | (refine s_k 25 rfl ?_; first | refine s_val rfl rfl rfl (r_ixN tb rfl rfl rfl rfl (by omega)) ?_ | refine s_val rfl rfl rfl (r_ixA tb rfl rfl rfl rfl (by omega) (by omega)) ?_ | refine s_val rfl rfl rfl (r_ixO tb rfl rfl rfl rfl (by omega)) ?_)
      | (refine s_k 4 rfl ?_; first | refine s_boxA rfl rfl rfl rfl rfl fun blk => ?_ | refine s_box1 rfl rfl rfl rfl rfl rfl fun blk => ?_)
      | (refine s_k 9 rfl ?_; (first | refine s_st1 tb rfl rfl rfl rfl rfl rfl rfl rfl ?_ | refine s_stA tb rfl rfl rfl rfl (by first | rfl | assumption | (apply Pv.size; assumption)) rfl rfl ?_); (first | refine' st0 ?qs ?_ | refine' st1 ?qs ?_ | refine' st2 ?qs ?_ | refine' st3 ?qs ?_ | refine' st4 ?qs ?_ | refine' st5 ?qs ?_ | refine' st6 ?qs ?_ | refine' st7 ?qs ?_ | refine' st8 ?qs ?_ | refine' st9 ?qs ?_ | refine' st10 ?qs ?_ | refine' st11 ?qs ?_); (case qs => (first | exact zSet)))
      | (refine s_k 36 rfl ?_; first | refine s_val rfl rfl rfl (r_len tb rfl rfl rfl) ?_ | refine s_val rfl rfl rfl (r_min rfl rfl rfl) ?_ | refine s_val rfl rfl rfl (r_min3 rfl rfl rfl rfl) ?_)
      | refine s_nil ?_)
        | (refine c_g ?_; first | refine c_seq ?_ | refine c_region ?_ | (refine c_gc ?_; first | refine c_cond1 rfl zTr ?_ | refine c_cond0 rfl zTr ?_ | refine z_condd1 rfl ?_ | refine z_condd0 rfl ?_ | refine z_conddn1 rfl ?_ | refine z_conddn0 rfl ?_ | refine c_condd rfl (fun hc => ?_) (fun hc => ?_) | refine c_conddn rfl (fun hc => ?_) (fun hc => ?_) | refine c_condn rfl (fun hc => ?_) (fun hc => ?_) | refine c_cond rfl (fun hc => ?_) (fun hc => ?_)) | refine c_block ?_ | refine c_skip ?_ | refine c_exit ?_ | refine c_ret ?_)
        | (refine e_g ?_; first | refine e_then ?_ | refine e_blkn ?_ | refine e_thenx ?_ | refine e_thenr ?_ | refine e_blkr ?_ | refine e_blkx ?_ | refine e_blky rfl ?_)
        | (refine e_ret2 (by simp) rfl (re_tmp rfl) (re_tmp rfl) fun w hL => ⟨rfl, hL.toBelow⟩))
set_option maxRecDepth 100000 in
set_option maxHeartbeats 800000 in
theorem implGreat_no (p : Nat → Int) (cs : Array Value) (v : Value) (L : List Sk) (idx : Int) (w : World) (hp : Pv p cs) (hU : Sl w 3 v (L.map Sk.cells)) (hok : ∀ s ∈ L, s.ok) (hn : L.length ≤ 1048576) (h0 : ¬ grC p L idx = 0) :
    Calls Try.prog 19 #[.agg cs, v, .int .i64 idx] w fun e w' => e = .returned (.tuple #[.int .i64 (grV p L idx).1, .int .i64 (grV p L idx).2]) ∧ Below w.heap.size w w' := by
  have hsz := hp.size
  have hf0 := grC_fst p L idx
  have hkc : ∀ w' (hb' : Below w.heap.size w w'), Calls Try.prog 101 #[.agg cs, v] w' fun e w'' => e = .returned (.int .i64 (skC p L)) ∧ Below w'.heap.size w' w'' := fun w' hb' => stakeCode_any p cs v L w' hp (hU.below hb') hok
  obtain ⟨A, cap, rfl, h1, h2, hS⟩ := hU.open
  simp only [List.length_map] at h1 hkc ⊢
  unfold grV
  rw [if_neg h0]
  refine enter3 Try.func19 rfl rfl rfl (Own.start w) ?_
  repeat' (first
    | (refine s_g ?_; first
      | (refine s_k 0 rfl ?_; refine s_val rfl rfl rfl (r_move rfl rfl) ?_)
      | (refine s_k 23 rfl ?_; first | refine s_val rfl rfl rfl (r_field tb rfl rfl rfl) ?_ | refine s_val rfl rfl rfl (r_fieldS tb rfl rfl rfl) ?_)
      | (refine s_k 8 rfl ?_; first | (refine' s_val rfl rfl rfl (r_ldv rfl rfl ?qm ?qv) ?_; (case qm => (exact zMm)); (case qv => (exact zLe))) | (refine' s_val rfl rfl rfl (r_ldo rfl rfl ?qw (by simp) ?qv) ?_; (case qw => assumption); (case qv => (exact zLe))))
      | (refine s_k 1 rfl ?_; refine s_val rfl rfl rfl (r_assign rfl rfl) ?_)
      | (refine s_k 13 rfl ?_; first | refine s_val rfl rfl rfl (r_lss rfl rfl rfl) ?_ | refine s_val rfl rfl rfl (r_eql rfl rfl rfl) ?_ | refine s_val rfl rfl rfl (r_neq rfl rfl rfl) ?_ | refine s_val rfl rfl rfl (r_add rfl rfl rfl (wrap_in (by simp only [lo, hi]; omega))) ?_ | refine s_val rfl rfl rfl (r_sub rfl rfl rfl (wrap_in (by simp only [lo, hi]; omega))) ?_)
      | (refine s_k 35 rfl ?_; first | (refine s_call Try.func104 (by kernel_rfl) rfl rfl rfl rfl rfl rfl (fun w hL => sizeSk_any _ _ _ _) ?_) | (refine s_call Try.func103 (by kernel_rfl) rfl rfl rfl rfl rfl rfl (fun w hL => to_below (within_any _ _ _ _) rfl) ?_) | (refine s_call Try.func102 (by kernel_rfl) rfl rfl rfl rfl rfl rfl (fun w hL => to_below (unless0_any _ _ _) rfl) ?_) | (refine s_call Try.func101 (by kernel_rfl) rfl rfl rfl rfl rfl rfl (fun w hL => hkc _ hL.toBelow) ?_) | (refine s_call Try.func100 (by kernel_rfl) rfl rfl rfl rfl rfl rfl (fun w hL => fo2v hf0 (hL.at_ m0)) ?_))
      | (refine s_k 25 rfl ?_; first | refine s_val rfl rfl rfl (r_ixN tb rfl rfl rfl rfl (by omega)) ?_ | refine s_val rfl rfl rfl (r_ixA tb rfl rfl rfl rfl (by omega) (by omega)) ?_ | refine s_val rfl rfl rfl (r_ixO tb rfl rfl rfl rfl (by omega)) ?_)
      | (refine s_k 4 rfl ?_; first | refine s_boxA rfl rfl rfl rfl rfl fun blk => ?_ | refine s_box1 rfl rfl rfl rfl rfl rfl fun blk => ?_)
      | (refine s_k 9 rfl ?_; (first | refine s_st1 tb rfl rfl rfl rfl rfl rfl rfl rfl ?_ | refine s_stA tb rfl rfl rfl rfl (by first | rfl | assumption | (apply Pv.size; assumption)) rfl rfl ?_); (first | refine' st0 ?qs ?_ | refine' st1 ?qs ?_ | refine' st2 ?qs ?_ | refine' st3 ?qs ?_ | refine' st4 ?qs ?_ | refine' st5 ?qs ?_ | refine' st6 ?qs ?_ | refine' st7 ?qs ?_ | refine' st8 ?qs ?_ | refine' st9 ?qs ?_ | refine' st10 ?qs ?_ | refine' st11 ?qs ?_); (case qs => (first | exact zSet)))
      | (refine s_k 36 rfl ?_; first | refine s_val rfl rfl rfl (r_len tb rfl rfl rfl) ?_ | refine s_val rfl rfl rfl (r_min rfl rfl rfl) ?_ | refine s_val rfl rfl rfl (r_min3 rfl rfl rfl rfl) ?_)
      | (refine s_k 6 rfl ?_; refine s_bsl rfl rfl (fun w => slInt2 _ _ w) rfl rfl rfl fun blk => ?_)
      | refine s_nil ?_)
    | (refine c_g ?_; first | refine c_seq ?_ | refine c_region ?_ | (refine c_gc ?_; first | refine c_cond1 rfl zTr ?_ | refine c_cond0 rfl zTr ?_ | refine z_condd1 rfl ?_ | refine z_condd0 rfl ?_ | refine z_conddn1 rfl ?_ | refine z_conddn0 rfl ?_ | refine c_condd rfl (fun hc => ?_) (fun hc => ?_) | refine c_conddn rfl (fun hc => ?_) (fun hc => ?_) | refine c_condn rfl (fun hc => ?_) (fun hc => ?_) | refine c_cond rfl (fun hc => ?_) (fun hc => ?_)) | refine c_block ?_ | refine c_skip ?_ | refine c_exit ?_ | refine c_ret ?_)
    | (refine e_g ?_; first | refine e_then ?_ | refine e_blkn ?_ | refine e_thenx ?_ | refine e_thenr ?_ | refine e_blkr ?_ | refine e_blkx ?_ | refine e_blky rfl ?_)
    | (refine e_ret2 (by simp) rfl (re_tmp rfl) (re_tmp rfl) fun w hL => ⟨rfl, hL.toBelow⟩))
/-- the code of a pasture, stakes and a test of numbers -/
def skA (p : Nat → Int) (L : List Sk) (b : Bool) : Int := if validStk p L then (if b then 0 else 2) else 1
set_option maxRecDepth 100000 in
theorem l05Asked_any (p : Nat → Int) (cs : Array Value) (T : TypeId) (gp : Nat) (v : Value) (L : List Sk) (b : Bool) (w : World) (hp : Pv p cs) (hg : w.heap[gp]? = some (.cells cs T (0, 0))) (hU : Sl w 3 v (L.map Sk.cells)) (hok : ∀ s ∈ L, s.ok) :
    Calls Try.prog 91 #[.pointer (some ⟨gp, 0, none⟩), v, .bool b] w fun e w' => e = .returned (.int .i64 (skA p L b)) ∧ Below w.heap.size w w' := by
  have hkc := fun w' (hb' : Below w.heap.size w w') hg' => l05Ok_any p cs T gp v L w' hp hg' (hU.below hb') hok
  obtain ⟨A, cap, rfl, h1, h2, hS⟩ := hU.open
  unfold skA
  cases hvs : validStk p L
  all_goals cases b
  all_goals
    rw [hvs] at hkc
    refine enter3 Try.func91 rfl rfl rfl (Own.start w) ?_
    repeat' (first
      | (refine s_g ?_; first
      | (refine s_k 0 rfl ?_; refine s_val rfl rfl rfl (r_move rfl rfl) ?_)
      | (refine s_k 1 rfl ?_; refine s_val rfl rfl rfl (r_assign rfl rfl) ?_)
      | (refine s_k 35 rfl ?_; (refine s_call Try.func185 (by kernel_rfl) rfl rfl rfl rfl rfl rfl (fun w hL => hkc _ hL.toBelow (Kn.old hL hg (by simp))) ?_))
      | (refine s_k 14 rfl ?_; refine s_val rfl rfl rfl (r_not rfl rfl) ?_)
      | refine s_nil ?_)
      | (refine c_g ?_; first | refine c_seq ?_ | refine c_region ?_ | (refine c_gc ?_; first | refine c_cond1 rfl zTr ?_ | refine c_cond0 rfl zTr ?_ | refine z_condd1 rfl ?_ | refine z_condd0 rfl ?_ | refine z_conddn1 rfl ?_ | refine z_conddn0 rfl ?_ | refine c_condd rfl (fun hc => ?_) (fun hc => ?_) | refine c_conddn rfl (fun hc => ?_) (fun hc => ?_) | refine c_condn rfl (fun hc => ?_) (fun hc => ?_) | refine c_cond rfl (fun hc => ?_) (fun hc => ?_)) | refine c_block ?_ | refine c_skip ?_ | refine c_exit ?_ | refine c_ret ?_)
      | (refine e_g ?_; first | refine e_then ?_ | refine e_blkn ?_ | refine e_thenx ?_ | refine e_thenr ?_ | refine e_blkr ?_ | refine e_blkx ?_ | refine e_blky rfl ?_)
      | (refine e_ret1 (by simp) rfl (re_tmp rfl) fun w hL => ⟨rfl, hL.toBelow⟩))
end Go.Proofs.Ytpifngdmlmfnhaa
