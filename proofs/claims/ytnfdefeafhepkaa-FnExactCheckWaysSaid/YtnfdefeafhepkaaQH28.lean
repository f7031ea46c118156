import Derived.Test.YtnfdefeafhepkaaQH14
import Derived.Test.YtnfdefeafhepkaaQH16
import Derived.Test.YtnfdefeafhepkaaQH23
import Derived.Test.YtnfdefeafhepkaaQH24
/- The cells for a goat that lies in a list; the mask of a list of cells: the specification's. No condition. -/
namespace Go.Proofs.Ytnfdefeafhepkaa
set_option linter.unusedVariables false
set_option linter.unusedSimpArgs false
open Go.RowKit Mem Wk
attribute [local irreducible] Calls Wk.S Wk.C Wk.E Wk.X Wk.T Wk.Y Wk.anV Wk.orV Wk.andV Wk.shlV Wk.shrV Calm.wpLex CalmB.wpLex bfsN
/-- a goat's cells from an offset on -/
structure GtAt (gu : Array Value) (o : Nat) (g : Gt) : Prop where
  fit : o + 7 ≤ gu.size
  at1 : o + 0 + 2 ≤ gu.size
  at2 : gu.extract (o + 0) (o + 0 + 2) = #[.int .i8 g.x, .int .i8 g.y]
  te1 : o + 2 + 2 ≤ gu.size
  te2 : gu.extract (o + 2) (o + 2 + 2) = #[.int .i8 g.u, .int .i8 g.v]
  rope : gu[o + 4]? = some (.int .i16 g.rope)
theorem ext_two {cs : Array Value} {o : Nat} {a b : Value} (h0 : cs[o]? = some a) (h1 : cs[o + 1]? = some b) : o + 2 ≤ cs.size ∧ cs.extract o (o + 2) = #[a, b] := by
  obtain ⟨q0, e0⟩ := Array.getElem?_eq_some_iff.1 h0
  obtain ⟨q1, e1⟩ := Array.getElem?_eq_some_iff.1 h1
  refine ⟨by omega, ?_⟩
  apply Array.ext
  · simp; omega
  · intro j hj1 hj2
    simp only [List.size_toArray, List.length_cons, List.length_nil] at hj2
    rcases (by omega : j = 0 ∨ j = 1) with rfl | rfl <;> simp_all [Array.getElem_extract]
theorem GtAt.ap {n cap : Nat} {cur : Array Value} {L : List Gt} (h : Ap 7 n cap cur (L.map Gt.cells).flatten) {k : Nat} {g : Gt} (hk : L[k]? = some g) : GtAt cur (0 + k * 7) g := by
  have hx : (L.map Gt.cells)[k]? = some g.cells := by simp [hk]
  have he := h.elem (lenGt L) hx
  have h0 : cur[0 + k * 7 + 0]? = some (.int .i8 g.x) := by rw [Nat.zero_add]; exact he 0 (by omega)
  have h1 : cur[0 + k * 7 + 0 + 1]? = some (.int .i8 g.y) := by rw [Nat.zero_add]; exact he 1 (by omega)
  have h2 : cur[0 + k * 7 + 2]? = some (.int .i8 g.u) := by rw [Nat.zero_add]; exact he 2 (by omega)
  have h3 : cur[0 + k * 7 + 2 + 1]? = some (.int .i8 g.v) := by rw [Nat.zero_add]; exact he 3 (by omega)
  have h4 : cur[0 + k * 7 + 4]? = some (.int .i16 g.rope) := by rw [Nat.zero_add]; exact he 4 (by omega)
  have h6 : cur[0 + k * 7 + 6]? = some (.int .i8 g.likes) := by rw [Nat.zero_add]; exact he 6 (by omega)
  have := (Array.getElem?_eq_some_iff.1 h6).1
  exact ⟨by omega, (ext_two h0 h1).1, (ext_two h0 h1).2, (ext_two h2 h3).1, (ext_two h2 h3).2, h4⟩
/-! the mask of a list -/
def mskF (l : List Sp) (j : Nat) : Bool := l.any fun s => decide (ci s = j)
theorem mskF_snoc (l : List Sp) {k : Nat} {c : Sp} (hk : l[k]? = some c) (j : Nat) : mskF (l.take (k + 1)) j = (mskF (l.take k) j || decide (ci c = j)) := by
  unfold mskF; rw [List.take_add_one, hk, List.any_append]; simp
theorem GB.mark {l : List Sp} {k : Nat} {c : Sp} {cs : Array Value} (h : GB (mskF (l.take k)) cs) (hk : l[k]? = some c) (hc : inR c) : GB (mskF (l.take (k + 1))) (cs.setIfInBounds (0 + c.y.toNat * 10 + c.x.toNat * 1) (.bool true)) := by
  have hci : ci c = 0 + c.y.toNat * 10 + c.x.toNat * 1 := by unfold ci; omega
  have hs := h.size
  have hlt : ci c < 100 := by have := hc; unfold inR at this; rw [hci]; omega
  rw [← hci]
  refine ⟨by simpa using hs, fun j hj => ?_⟩
  rw [mskF_snoc l hk j]
  by_cases e : ci c = j
  · subst e
    rw [Array.getElem?_setIfInBounds_self_of_lt (by omega)]; simp
  · rw [Array.getElem?_setIfInBounds_ne e, h.get j hj, decide_eq_false e, Bool.or_false]
set_option maxRecDepth 100000 in
set_option maxHeartbeats 800000 in
theorem l01Mask_any (l : List Sp) (T : TypeId) (gl cap : Nat) (cur : Array Value) (w : World) (hA : Ap 2 l.length cap cur (flS l)) (hg : w.heap[gl]? = some (.cells cur T (0, 0))) (hl : ∀ c ∈ l, inR c) :
    Calls Try.prog 41 #[.slice (some ⟨gl, 0, none⟩) l.length cap] w fun e w' => e = .returned (.agg (gbA (mskF l))) ∧ Below w.heap.size w w' := by
  have hmx := hA.max
  have hle := hA.le
  unfold maxLen at hmx
  refine enter1 Try.func41 rfl rfl rfl (Own.start w) ?_
  repeat' (first
    | (refine s_g ?_; first
      | (refine s_k 0 rfl ?_; refine s_val rfl rfl rfl (r_move rfl rfl) ?_)
      | (refine s_k 23 rfl ?_; first | refine s_val rfl rfl rfl (r_field tb rfl rfl rfl) ?_ | refine s_val rfl rfl rfl (r_fieldS tb rfl rfl rfl) ?_)
      | (refine s_k 8 rfl ?_; first | (refine' s_val rfl rfl rfl (r_ldv rfl rfl ?qm ?qv) ?_; (case qm => (exact zMm)); (case qv => (exact zLe))) | (refine' s_val rfl rfl rfl (r_ldo rfl rfl ?qw (by simp) ?qv) ?_; (case qw => assumption); (case qv => (exact zLe))))
      | (refine s_k 1 rfl ?_; refine s_val rfl rfl rfl (r_assign rfl rfl) ?_)
      | (refine s_k 13 rfl ?_; first | refine s_val rfl rfl rfl (r_lss rfl rfl rfl) ?_ | refine s_val rfl rfl rfl (r_add rfl rfl rfl (wrap_in (by simp only [lo, hi]; omega))) ?_)
      | (refine s_k 25 rfl ?_; first | refine s_val rfl rfl rfl (r_ixN tb rfl rfl rfl rfl (by omega)) ?_ | refine s_val rfl rfl rfl (r_ixA tb rfl rfl rfl rfl (by omega) (by omega)) ?_ | refine s_val rfl rfl rfl (r_ixO tb rfl rfl rfl rfl (by omega)) ?_)
      | (refine s_k 9 rfl ?_; (first | refine s_st1 tb rfl rfl rfl rfl rfl rfl rfl rfl ?_ | refine s_stA tb rfl rfl rfl rfl (by first | rfl | assumption | (apply Pv.size; assumption)) rfl rfl ?_); (first | refine' st0 ?qs ?_ | refine' st1 ?qs ?_ | refine' st2 ?qs ?_ | refine' st3 ?qs ?_ | refine' st4 ?qs ?_ | refine' st5 ?qs ?_ | refine' st6 ?qs ?_ | refine' st7 ?qs ?_ | refine' st8 ?qs ?_ | refine' st9 ?qs ?_ | refine' st10 ?qs ?_ | refine' st11 ?qs ?_); (case qs => (first | exact setB zFl_ok zFl_ok.size | exact zSet)))
      | (refine s_k 3 rfl ?_; refine s_allocA (t := 84) rfl zF1010 rfl rfl rfl fun blk => ?_)
      | (refine s_k 36 rfl ?_; refine s_val rfl rfl rfl (r_len tb rfl rfl rfl) ?_)
      | (refine s_k 5 rfl ?_; refine s_val rfl rfl rfl (r_build rfl rfl (fun w => bF1010 w)) ?_)
      | refine s_nil ?_)
    | (refine c_g ?_; first | refine c_seq ?_ | refine c_region ?_ | (refine c_gc ?_; first | refine c_cond1 rfl zTr ?_ | refine c_cond0 rfl zTr ?_ | refine z_condd1 rfl ?_ | refine z_condd0 rfl ?_ | refine z_conddn1 rfl ?_ | refine z_conddn0 rfl ?_ | refine c_condd rfl (fun hc => ?_) (fun hc => ?_) | refine c_conddn rfl (fun hc => ?_) (fun hc => ?_) | refine c_condn rfl (fun hc => ?_) (fun hc => ?_) | refine c_cond rfl (fun hc => ?_) (fun hc => ?_)) | refine c_block ?_ | refine c_skip ?_ | refine c_exit ?_ | refine c_ret ?_)
    | (refine e_g ?_; first | refine e_then ?_ | refine e_blkn ?_ | refine e_thenx ?_ | refine e_thenr ?_ | refine e_blkr ?_ | refine e_blkx ?_ | refine e_blky rfl ?_))
  rename_i b2
  refine c_loop (ι := Nat × Array Value) (fun i => l.length - i.1) (fun i => i.1 ≤ l.length ∧ GB (mskF (l.take i.1)) i.2) (fun i => [(4, .int .i64 (i.1 : Int)), (0, .slice (some ⟨gl, 0, none⟩) l.length cap), (3, .pointer (some ⟨blk, 0, none⟩)), (2, .pointer (some ⟨b2, 0, none⟩))]) (fun i => [(blk, 84, i.2), (b2, 84, zFl)]) (0, zFl) ⟨by simp, zFl_ok.congr (fun j hj => by simp [mskF])⟩ ?hs rfl ?_
  case hs => (repeat' (first | exact sub_nil | refine sub_cons rfl ?_))
  rintro ⟨k, c1⟩ ⟨hk, hq⟩
  simp only at hk hq ⊢
  have hqs := hq.size
  by_cases hlt : k < l.length
  · have hx : l[k]? = some l[k] := List.getElem?_eq_getElem hlt
    have hcr := hl _ (List.getElem_mem hlt)
    generalize l[k] = c at *
    have hxe := hA.cx hx
    have hye := hA.cy hx
    have hmk := hq.mark hx hcr
    have hrn : (0 ≤ c.x ∧ c.x < 10) ∧ 0 ≤ c.y ∧ c.y < 10 := ⟨⟨hcr.1, hcr.2.1⟩, hcr.2.2⟩
    repeat' (first
      | (refine s_g ?_; first
      | (refine s_k 0 rfl ?_; refine s_val rfl rfl rfl (r_move rfl rfl) ?_)
      | (refine s_k 23 rfl ?_; first | refine s_val rfl rfl rfl (r_field tb rfl rfl rfl) ?_ | refine s_val rfl rfl rfl (r_fieldS tb rfl rfl rfl) ?_)
      | (refine s_k 8 rfl ?_; first | refine s_val rfl rfl rfl (r_ldo rfl rfl hg (by simp) (ldv1 tb rfl hxe)) ?_ | refine s_val rfl rfl rfl (r_ldo rfl rfl hg (by simp) (ldv1 tb rfl hye)) ?_ | (refine' s_val rfl rfl rfl (r_ldv rfl rfl ?qm ?qv) ?_; (case qm => (exact zMm)); (case qv => (exact zLe))) | (refine' s_val rfl rfl rfl (r_ldo rfl rfl ?qw (by simp) ?qv) ?_; (case qw => assumption); (case qv => (exact zLe))))
      | (refine s_k 1 rfl ?_; refine s_val rfl rfl rfl (r_assign rfl rfl) ?_)
      | (refine s_k 13 rfl ?_; first | refine s_val rfl rfl rfl (r_lss rfl rfl rfl) ?_ | refine s_val rfl rfl rfl (r_add rfl rfl rfl (wrap_in (by simp only [lo, hi]; omega))) ?_)
      | (refine s_k 25 rfl ?_; first | refine s_val rfl rfl rfl (r_ixO tb rfl rfl rfl rfl hlt) ?_ | refine s_val rfl rfl rfl (r_ixN tb rfl rfl rfl rfl (by omega)) ?_ | refine s_val rfl rfl rfl (r_ixA tb rfl rfl rfl rfl (by omega) (by omega)) ?_ | refine s_val rfl rfl rfl (r_ixO tb rfl rfl rfl rfl (by omega)) ?_)
      | (refine s_k 9 rfl ?_; (first | refine s_st1 tb rfl rfl rfl rfl rfl rfl rfl rfl ?_ | refine s_stA tb rfl rfl rfl rfl (by first | rfl | assumption | (apply Pv.size; assumption)) rfl rfl ?_); (first | refine' st0 ?qs ?_ | refine' st1 ?qs ?_ | refine' st2 ?qs ?_ | refine' st3 ?qs ?_ | refine' st4 ?qs ?_ | refine' st5 ?qs ?_ | refine' st6 ?qs ?_ | refine' st7 ?qs ?_ | refine' st8 ?qs ?_ | refine' st9 ?qs ?_ | refine' st10 ?qs ?_ | refine' st11 ?qs ?_); (case qs => (first | exact set_one (by omega) rfl | exact zSet)); (first | (refine absA0 (GB (mskF (l.take (k + 1)))) hmk fun c3 hq3 => ?_) | skip))
      | (refine s_k 36 rfl ?_; refine s_val rfl rfl rfl (r_len tb rfl rfl rfl) ?_)
      | refine s_nil ?_)
      | (refine c_g ?_; first | refine c_seq ?_ | refine c_region ?_ | (refine c_gc ?_; first | refine c_cond1 rfl zTr ?_ | refine c_cond0 rfl zTr ?_ | refine z_condd1 rfl ?_ | refine z_condd0 rfl ?_ | refine z_conddn1 rfl ?_ | refine z_conddn0 rfl ?_ | refine c_condd rfl (fun hc => ?_) (fun hc => ?_) | refine c_conddn rfl (fun hc => ?_) (fun hc => ?_) | refine c_condn rfl (fun hc => ?_) (fun hc => ?_) | refine c_cond rfl (fun hc => ?_) (fun hc => ?_)) | refine c_block ?_ | refine c_skip ?_ | refine c_exit ?_ | refine c_ret ?_)
      | (refine e_g ?_; first | refine e_then ?_ | refine e_blkn ?_ | refine e_thenx ?_ | refine e_thenr ?_ | refine e_blkr ?_ | refine e_blkx ?_ | refine e_blky rfl ?_)
      | (refine x_g ?_; first
      | (refine x_k 0 rfl ?_; (refine x_val rfl rfl rfl (r_move rfl rfl) ?hp ?_; (case hp => exact rfl)))
      | (refine x_k 23 rfl ?_; first | (refine x_val rfl rfl rfl (r_field tb rfl rfl rfl) ?hp ?_; (case hp => exact rfl)) | (refine x_val rfl rfl rfl (r_fieldS tb rfl rfl rfl) ?hp ?_; (case hp => exact rfl)))
      | (refine x_k 8 rfl ?_; first | (refine x_val rfl rfl rfl (r_ldo rfl rfl hg (by simp) (ldv1 tb rfl hxe)) ?hp ?_; (case hp => exact rfl)) | (refine x_val rfl rfl rfl (r_ldo rfl rfl hg (by simp) (ldv1 tb rfl hye)) ?hp ?_; (case hp => exact rfl)) | (refine' x_val rfl rfl rfl (r_ldv rfl rfl ?qm ?qv) ?hp ?_; (case qm => (exact zMm)); (case qv => (exact zLe)); (case hp => exact rfl)) | (refine' x_val rfl rfl rfl (r_ldo rfl rfl ?qw (by simp) ?qv) ?hp ?_; (case qw => assumption); (case qv => (exact zLe)); (case hp => exact rfl)))
      | (refine x_k 1 rfl ?_; (refine x_val rfl rfl rfl (r_assign rfl rfl) ?hp ?_; (case hp => exact rfl)))
      | (refine x_k 13 rfl ?_; first | (refine x_val rfl rfl rfl (r_lss rfl rfl rfl) ?hp ?_; (case hp => exact rfl)) | (refine x_val rfl rfl rfl (r_add rfl rfl rfl (wrap_in (by simp only [lo, hi]; omega))) ?hp ?_; (case hp => exact rfl)))
      | (refine x_k 25 rfl ?_; first | (refine x_val rfl rfl rfl (r_ixO tb rfl rfl rfl rfl hlt) ?hp ?_; (case hp => exact rfl)) | (refine x_val rfl rfl rfl (r_ixN tb rfl rfl rfl rfl (by omega)) ?hp ?_; (case hp => exact rfl)) | (refine x_val rfl rfl rfl (r_ixA tb rfl rfl rfl rfl (by omega) (by omega)) ?hp ?_; (case hp => exact rfl)) | (refine x_val rfl rfl rfl (r_ixO tb rfl rfl rfl rfl (by omega)) ?hp ?_; (case hp => exact rfl)))
      | (refine x_k 9 rfl ?_; first | (refine' x_putA0 tb rfl rfl rfl rfl (by first | rfl | assumption | (apply Pv.size; assumption)) ?qs (by first | rfl | assumption | (apply Pv.size; assumption)) rfl rfl ?hp ?_; (case qs => (first | exact set_one (by omega) rfl | exact zSet)); (case hp => exact rfl)) | (refine' x_putA1 tb rfl rfl rfl rfl (by first | rfl | assumption | (apply Pv.size; assumption)) ?qs (by first | rfl | assumption | (apply Pv.size; assumption)) rfl rfl ?hp ?_; (case qs => (first | exact set_one (by omega) rfl | exact zSet)); (case hp => exact rfl)) | (refine' x_putA2 tb rfl rfl rfl rfl (by first | rfl | assumption | (apply Pv.size; assumption)) ?qs (by first | rfl | assumption | (apply Pv.size; assumption)) rfl rfl ?hp ?_; (case qs => (first | exact set_one (by omega) rfl | exact zSet)); (case hp => exact rfl)))
      | (refine x_k 36 rfl ?_; (refine x_val rfl rfl rfl (r_len tb rfl rfl rfl) ?hp ?_; (case hp => exact rfl)))
      | refine x_nil0 ?_
      | refine x_nil ?_)
      | (refine' c_drawXT (id := 5) 12 [(Sum.inl _ : Calm.Plan), (Sum.inl _ : Calm.Plan), (Sum.inl _ : Calm.Plan), (Sum.inl _ : Calm.Plan), (Sum.inl _ : Calm.Plan), (Sum.inl _ : Calm.Plan), (Sum.inl _ : Calm.Plan), (Sum.inl _ : Calm.Plan), (Sum.inl _ : Calm.Plan), (Sum.inl _ : Calm.Plan), (Sum.inl _ : Calm.Plan), (Sum.inl _ : Calm.Plan)] (by kernel_rfl) (by kernel_rfl) (by kernel_rfl) ?_)
      | refine e_tail ?_
      | (refine e_round (k + 1, c3) (by simp; omega) ⟨by simp; omega, hq3⟩ ?_ rfl; (repeat' (first | exact sub_nil | refine sub_cons rfl ?_))))
  · have hkl : k = l.length := by omega
    subst hkl
    rw [List.take_length] at hq
    have hfin := (gbA_ok (mskF l)).uniq hq
    rw [hfin]
    repeat' (first
      | (refine s_g ?_; first
      | (refine s_k 0 rfl ?_; refine s_val rfl rfl rfl (r_move rfl rfl) ?_)
      | (refine s_k 23 rfl ?_; first | refine s_val rfl rfl rfl (r_field tb rfl rfl rfl) ?_ | refine s_val rfl rfl rfl (r_fieldS tb rfl rfl rfl) ?_)
      | (refine s_k 8 rfl ?_; first | (refine' s_val rfl rfl rfl (r_ldv rfl rfl ?qm ?qv) ?_; (case qm => (exact zMm)); (case qv => (exact zLe))) | (refine' s_val rfl rfl rfl (r_ldo rfl rfl ?qw (by simp) ?qv) ?_; (case qw => assumption); (case qv => (exact zLe))))
      | (refine s_k 1 rfl ?_; refine s_val rfl rfl rfl (r_assign rfl rfl) ?_)
      | (refine s_k 13 rfl ?_; first | refine s_val rfl rfl rfl (r_lss rfl rfl rfl) ?_ | refine s_val rfl rfl rfl (r_add rfl rfl rfl (wrap_in (by simp only [lo, hi]; omega))) ?_)
      | (refine s_k 25 rfl ?_; first | refine s_val rfl rfl rfl (r_ixN tb rfl rfl rfl rfl (by omega)) ?_ | refine s_val rfl rfl rfl (r_ixA tb rfl rfl rfl rfl (by omega) (by omega)) ?_ | refine s_val rfl rfl rfl (r_ixO tb rfl rfl rfl rfl (by omega)) ?_)
      | (refine s_k 9 rfl ?_; (first | refine s_st1 tb rfl rfl rfl rfl rfl rfl rfl rfl ?_ | refine s_stA tb rfl rfl rfl rfl (by first | rfl | assumption | (apply Pv.size; assumption)) rfl rfl ?_); (first | refine' st0 ?qs ?_ | refine' st1 ?qs ?_ | refine' st2 ?qs ?_ | refine' st3 ?qs ?_ | refine' st4 ?qs ?_ | refine' st5 ?qs ?_ | refine' st6 ?qs ?_ | refine' st7 ?qs ?_ | refine' st8 ?qs ?_ | refine' st9 ?qs ?_ | refine' st10 ?qs ?_ | refine' st11 ?qs ?_); (case qs => (first | exact setB hq zFl_ok.size | exact zSet)))
      | (refine s_k 36 rfl ?_; refine s_val rfl rfl rfl (r_len tb rfl rfl rfl) ?_)
      | refine s_nil ?_)
      | (refine c_g ?_; first | refine c_seq ?_ | refine c_region ?_ | (refine c_gc ?_; first | refine c_cond1 rfl zTr ?_ | refine c_cond0 rfl zTr ?_ | refine z_condd1 rfl ?_ | refine z_condd0 rfl ?_ | refine z_conddn1 rfl ?_ | refine z_conddn0 rfl ?_ | refine c_condd rfl (fun hc => ?_) (fun hc => ?_) | refine c_conddn rfl (fun hc => ?_) (fun hc => ?_) | refine c_condn rfl (fun hc => ?_) (fun hc => ?_) | refine c_cond rfl (fun hc => ?_) (fun hc => ?_)) | refine c_block ?_ | refine c_skip ?_ | refine c_exit ?_ | refine c_ret ?_)
      | (refine e_g ?_; first | refine e_then ?_ | refine e_blkn ?_ | refine e_thenx ?_ | refine e_thenr ?_ | refine e_blkr ?_ | refine e_blkx ?_ | refine e_blky rfl ?_)
      | (refine e_ret1 (by simp) rfl (re_cell tb rfl m1 rfl hq.size) fun w hL => ⟨rfl, hL.toBelow⟩))
end Go.Proofs.Ytnfdefeafhepkaa
/- A bite of a goat: plain words; two blocks that a callee has written. No condition. -/
namespace Go.Proofs.Ytnfdefeafhepkaa
set_option linter.unusedVariables false
set_option linter.unusedSimpArgs false
open Go.RowKit Mem Wk
attribute [local irreducible] Calls Wk.S Wk.C Wk.E Wk.X Wk.T Wk.Y Wk.anV Wk.orV Wk.andV Wk.shlV Wk.shrV Calm.wpLex CalmB.wpLex bfsN
/-! what a bite does -/
def btB (p : Nat → Int) (g : Gt) (h : Int) : Bool := decide (0 < h) && (choV p g).2
def bitM (p : Nat → Int) (g : Gt) (h : Int) : Int := if btB p g h then min (min h 5) (p (gi (choV p g).1.x (choV p g).1.y)) else 0
def bitP (p : Nat → Int) (g : Gt) (h : Int) : Nat → Int := if btB p g h then upd p (gi (choV p g).1.x (choV p g).1.y) (p (gi (choV p g).1.x (choV p g).1.y) - bitM p g h) else p
def bitG (p : Nat → Int) (g : Gt) (h : Int) : Gt := if btB p g h then ⟨(choV p g).1.x, (choV p g).1.y, g.u, g.v, g.rope, g.eats, g.likes⟩ else g
theorem choAt_all {Q : Sp → Prop} (p : Nat → Int) (g : Gt) : ∀ (l : List Sp) (st : Sp × Bool), (st.2 = true → Q st.1) → (∀ c ∈ l, Q c) → (l.foldl (chStep p g) st).2 = true → Q (l.foldl (chStep p g) st).1
  | [], st, h, _, h2 => h h2
  | c :: l, st, h, hl, h2 => by
    rw [List.foldl_cons] at h2 ⊢
    refine choAt_all p g l _ (fun h3 => ?_) (fun d hd => hl d (List.mem_cons_of_mem _ hd)) h2
    unfold chStep at h3 ⊢
    split
    · rename_i hz; rw [if_pos hz] at h3; exact h h3
    · rename_i hz
      rw [if_neg hz] at h3
      split
      · exact hl c List.mem_cons_self
      · rename_i hq; rw [if_neg hq] at h3; exact h h3
/-- what a goat on a pasture needs -/
structure GtOn (p : Nat → Int) (g : Gt) : Prop where
  ok : g.ok
  rope : -1 ≤ g.rope
  a : p 0 ≤ 10
  b : p 1 ≤ 10
  c : isC (p 0) (p 1) g.x g.y = true
theorem choV_isC {p : Nat → Int} {g : Gt} (hg : GtOn p g) (h : (choV p g).2 = true) : isC (p 0) (p 1) (choV p g).1.x (choV p g).1.y = true :=
  choAt_all (Q := fun c => isC (p 0) (p 1) c.x c.y = true) p g (gtlL p g) (⟨0, 0⟩, false) (fun h => by cases h) (gtlL_isC hg.a hg.b) h
theorem choV_inR {p : Nat → Int} {g : Gt} (hg : GtOn p g) : inR (choV p g).1 := choAt_inR p g _ _ ⟨by simp, by simp, by simp, by simp⟩ (gtlL_inR hg.a hg.b)
theorem bitP_low {p : Nat → Int} {g : Gt} {h : Int} {i : Nat} (hi : i < 2) : bitP p g h i = p i := by
  unfold bitP; split
  · exact upd_ne _ _ (by unfold gi; omega)
  · rfl
theorem bit_on {p : Nat → Int} {g : Gt} {h : Int} (hg : GtOn p g) : GtOn (bitP p g h) (bitG p g h) := by
  have h0 := bitP_low (p := p) (g := g) (h := h) (i := 0) (by omega)
  have h1 := bitP_low (p := p) (g := g) (h := h) (i := 1) (by omega)
  have hr := choV_inR hg
  have hr2 := inR_ok hr
  have hk := hg.ok
  refine ⟨?_, ?_, by rw [h0]; exact hg.a, by rw [h1]; exact hg.b, ?_⟩
  · unfold bitG; split
    · exact ⟨hr2, hk.2⟩
    · exact hk
  · unfold bitG; split <;> exact hg.rope
  · rw [h0, h1]; unfold bitG; split
    · rename_i hb
      unfold btB at hb
      simp only [Bool.and_eq_true] at hb
      exact choV_isC hg hb.2
    · exact hg.c
theorem GtOn.bit {p : Nat → Int} {g g' : Gt} {h : Int} (hg : GtOn p g') : GtOn (bitP p g h) g' := by
  have h0 := bitP_low (p := p) (g := g) (h := h) (i := 0) (by omega)
  have h1 := bitP_low (p := p) (g := g) (h := h) (i := 1) (by omega)
  exact ⟨hg.ok, hg.rope, by rw [h0]; exact hg.a, by rw [h1]; exact hg.b, by rw [h0, h1]; exact hg.c⟩
theorem bitM_le {p : Nat → Int} {g : Gt} {h : Int} (h0 : 0 ≤ h) : bitM p g h ≤ h := by
  unfold bitM; split
  · omega
  · exact h0
theorem bitM_ge {p : Nat → Int} {cs : Array Value} {g : Gt} {h : Int} (hp : Pv p cs) (hg : GtOn p g) (h0 : 0 ≤ h) : -32768 ≤ bitM p g h ∧ bitM p g h ≤ 5 := by
  have hr := choV_inR hg
  have hgc := gi_lt ⟨hr.1, hr.2.1⟩ hr.2.2
  have h16 := hp.i16 _ hgc.1 hgc.2
  unfold bitM; split <;> omega
/-! two blocks that a callee has written -/
structure Upd2 (w w' : World) (g1 : Nat) (T1 : TypeId) (c1 : Array Value) (g2 : Nat) (T2 : TypeId) (c2 : Array Value) : Prop where
  os : w'.os = w.os
  tape : w'.tape = w.tape
  output : w'.output = w.output
  size : w.heap.size ≤ w'.heap.size
  keep : ∀ k, k < w.heap.size → k ≠ g1 → k ≠ g2 → w'.heap[k]? = w.heap[k]?
  has1 : w'.heap[g1]? = some (.cells c1 T1 (0, 0))
  has2 : w'.heap[g2]? = some (.cells c2 T2 (0, 0))
theorem Upd2.of {w0 w : World} {g1 g2 : Nat} {T1 T2 : TypeId} {c1 c2 : Array Value} {L : List (Nat × TypeId × Array Value)} (h : Kn [g1, g2] w0 w L) (hm1 : (g1, T1, c1) ∈ L) (hm2 : (g2, T2, c2) ∈ L) : Upd2 w0 w g1 T1 c1 g2 T2 c2 :=
  ⟨h.os, h.tape, h.output, h.size, fun k hk n1 n2 => h.keep k hk fun b hb e => by
    rcases h.low b hb with h1 | h1
    · omega
    · simp at h1; omega, h.has _ hm1, h.has _ hm2⟩
/-- two steps of one block each -/
theorem Upd2.split {w w' : World} {g1 g2 : Nat} {T1 T2 : TypeId} {c1 c2 d1 d2 : Array Value} (hne : g1 ≠ g2) (h1 : w.heap[g1]? = some (.cells d1 T1 (0, 0))) (h2 : w.heap[g2]? = some (.cells d2 T2 (0, 0))) (hu : Upd2 w w' g1 T1 c1 g2 T2 c2) : Upd w (w.setRow g1 c1) g1 T1 c1 ∧ Upd (w.setRow g1 c1) w' g2 T2 c2 := by
  refine ⟨⟨rfl, rfl, rfl, by simp, fun k hk hn => setRow_other w g1 k c1 hn, setRow_heap w g1 d1 c1 T1 (0, 0) h1⟩, ⟨hu.os, hu.tape, hu.output, by simpa using hu.size, fun k hk hn => ?_, hu.has2⟩⟩
  have hk' : k < w.heap.size := by simpa using hk
  by_cases e : k = g1
  · subst e; rw [hu.has1, setRow_heap w k d1 c1 T1 (0, 0) h1]
  · rw [hu.keep k hk' e hn, setRow_other w g1 k c1 e]
theorem Kn.ne2 {O : List Nat} {w0 w : World} {L : List (Nat × TypeId × Array Value)} (h : Kn O w0 w L) {i j : Nat} {x y : Nat × TypeId × Array Value} (hi : L[i]? = some x) (hj : L[j]? = some y) (hij : i ≠ j) : x.1 ≠ y.1 := fun e => by
  have hil := (List.getElem?_eq_some_iff.1 hi).1
  have hjl := (List.getElem?_eq_some_iff.1 hj).1
  have hm0 : i < (L.map (·.1)).length := by simpa using hil
  have hm1 : j < (L.map (·.1)).length := by simpa using hjl
  have e1 := (List.getElem?_eq_some_iff.1 hi).2
  have e2 := (List.getElem?_eq_some_iff.1 hj).2
  exact hij ((List.getElem_inj (h₀ := hm0) (h₁ := hm1) h.nodup).1 (by simp [e1, e2, e]))
/-! goats as cells of a block -/
def gtA (g : Gt) : Array Value := #[.int .i8 g.x, .int .i8 g.y, .int .i8 g.u, .int .i8 g.v, .int .i16 g.rope, .int .i16 g.eats, .int .i8 g.likes]
/-- these goats, one behind the other -/
def GtIn (l : List Gt) (o : Nat) (cur : Array Value) : Prop := ∀ i g, l[i]? = some g → ∀ j, j < 7 → cur[o + i * 7 + j]? = g.cells[j]?
theorem GtIn.fit {l : List Gt} {o : Nat} {cur : Array Value} (h : GtIn l o cur) {i : Nat} {g : Gt} (hg : l[i]? = some g) : o + i * 7 + 7 ≤ cur.size := by
  have h6 := h i g hg 6 (by omega)
  have : cur[o + i * 7 + 6]? = some (.int .i8 g.likes) := by rw [h6]; rfl
  have := (Array.getElem?_eq_some_iff.1 this).1
  omega
theorem GtIn.ext {l : List Gt} {o : Nat} {cur : Array Value} (h : GtIn l o cur) {i : Nat} {g : Gt} (hg : l[i]? = some g) : cur.extract (o + i * 7) (o + i * 7 + 7) = gtA g := by
  have hf := h.fit hg
  apply Array.ext_getElem?
  intro j
  rw [Array.getElem?_extract]
  split
  · rename_i hj
    have hj7 : j < 7 := by omega
    rw [h i g hg j hj7]
    match j, hj7 with
    | 0, _ => rfl
    | 1, _ => rfl
    | 2, _ => rfl
    | 3, _ => rfl
    | 4, _ => rfl
    | 5, _ => rfl
    | 6, _ => rfl
  · rename_i hj
    rw [Array.getElem?_eq_none]
    unfold gtA; simp; omega
theorem GtIn.set {l : List Gt} {o : Nat} {cur : Array Value} (h : GtIn l o cur) {i : Nat} {g g' : Gt} (hg : l[i]? = some g) (hu : g'.u = g.u) (hv : g'.v = g.v) (hr : g'.rope = g.rope) (he : g'.eats = g.eats) (hl : g'.likes = g.likes) : GtIn (l.set i g') o (splice cur (o + i * 7) #[.int .i8 g'.x, .int .i8 g'.y]) := fun k d hd j hj => by
  have hf := h.fit hg
  rw [splice_get _ _ _ (by simp; omega)]
  by_cases e : k = i
  · subst e
    have hlt := (List.getElem?_eq_some_iff.1 hg).1
    rw [List.getElem?_set_self hlt] at hd
    injection hd with hd; subst hd
    have hj' := h k g hg j hj
    split
    · rename_i hjj
      have : j < 2 := by simp at hjj; omega
      match j, this with
      | 0, _ => simp [Gt.cells, Nat.add_sub_cancel_left]
      | 1, _ =>
        have e1 : o + k * 7 + 1 - (o + k * 7) = 1 := by omega
        rw [e1]; rfl
    · rename_i hjj
      have h2 : ¬ j < 2 := by simp at hjj; omega
      rw [hj']
      match j, hj, h2 with
      | 2, _, _ => simp [Gt.cells, hu]
      | 3, _, _ => simp [Gt.cells, hv]
      | 4, _, _ => simp [Gt.cells, hr]
      | 5, _, _ => simp [Gt.cells, he]
      | 6, _, _ => simp [Gt.cells, hl]
  · rw [List.getElem?_set_ne (fun e2 => e e2.symm)] at hd
    rw [if_neg]
    · exact h k d hd j hj
    · simp
      intro h1
      have : k < i ∨ i < k := by omega
      rcases this with h2 | h2
      · have := Nat.mul_le_mul_right 7 (show k + 1 ≤ i by omega); rw [Nat.succ_mul] at this; omega
      · have := Nat.mul_le_mul_right 7 (show i + 1 ≤ k by omega); rw [Nat.succ_mul] at this; omega
theorem bitG_tail (p : Nat → Int) (g : Gt) (h : Int) : (bitG p g h).u = g.u ∧ (bitG p g h).v = g.v ∧ (bitG p g h).rope = g.rope ∧ (bitG p g h).eats = g.eats ∧ (bitG p g h).likes = g.likes := by
  unfold bitG; split <;> exact ⟨rfl, rfl, rfl, rfl, rfl⟩
end Go.Proofs.Ytnfdefeafhepkaa
/- Goats that are fed in turns: plain words; what stands when a callee has written two blocks and made one. No condition. -/
namespace Go.Proofs.Ytnfdefeafhepkaa
set_option linter.unusedVariables false
set_option linter.unusedSimpArgs false
open Go.RowKit Mem Wk
attribute [local irreducible] Calls Wk.S Wk.C Wk.E Wk.X Wk.T Wk.Y Wk.Z Wk.anV Wk.orV Wk.andV Wk.shlV Wk.shrV Calm.wpLex CalmB.wpLex CalmE.wpLex bfsN
def gtO : Gt := ⟨0, 0, 0, 0, 0, 0, 0⟩
structure Fd where
  p : Nat → Int
  L : List Gt
  E : List Int
/-- the bite of goat i -/
def fdStep (i : Nat) (s : Fd) : Fd :=
  ⟨bitP s.p (s.L.getD i gtO) ((s.L.getD i gtO).eats - s.E.getD i 0), s.L.set i (bitG s.p (s.L.getD i gtO) ((s.L.getD i gtO).eats - s.E.getD i 0)), s.E.set i (s.E.getD i 0 + bitM s.p (s.L.getD i gtO) ((s.L.getD i gtO).eats - s.E.getD i 0))⟩
structure FdOk (n t : Nat) (s : Fd) : Prop where
  lL : s.L.length = n
  lE : s.E.length = n
  on : ∀ (i : Nat) (g : Gt), s.L[i]? = some g → GtOn s.p g ∧ 0 ≤ g.eats ∧ g.eats ≤ 100
  le : ∀ (i : Nat) (g : Gt) (e : Int), s.L[i]? = some g → s.E[i]? = some e → e ≤ g.eats ∧ -(40000 * (t : Int)) ≤ e
theorem FdOk.step {n t i : Nat} {s : Fd} {g : Gt} {e : Int} {cs : Array Value} (h : FdOk n t s) (hp : Pv s.p cs) (hg : s.L[i]? = some g) (he : s.E[i]? = some e) :
    fdStep i s = ⟨bitP s.p g (g.eats - e), s.L.set i (bitG s.p g (g.eats - e)), s.E.set i (e + bitM s.p g (g.eats - e))⟩ ∧ FdOk n (t + 1) (fdStep i s) := by
  have e1 : s.L.getD i gtO = g := by simp [List.getD_eq_getElem?_getD, hg]
  have e2 : s.E.getD i 0 = e := by simp [List.getD_eq_getElem?_getD, he]
  have hS : fdStep i s = ⟨bitP s.p g (g.eats - e), s.L.set i (bitG s.p g (g.eats - e)), s.E.set i (e + bitM s.p g (g.eats - e))⟩ := by unfold fdStep; rw [e1, e2]
  obtain ⟨hon, h0, h100⟩ := h.on i g hg
  obtain ⟨l1, l2⟩ := h.le i g e hg he
  have hm := bitM_ge (h := g.eats - e) hp hon (by omega)
  have hm2 := bitM_le (p := s.p) (g := g) (h := g.eats - e) (by omega)
  have ht := bitG_tail s.p g (g.eats - e)
  have hlt := (List.getElem?_eq_some_iff.1 hg).1
  have hlt2 := (List.getElem?_eq_some_iff.1 he).1
  refine ⟨hS, ?_⟩
  rw [hS]
  refine ⟨by simp [h.lL], by simp [h.lE], fun k d hd => ?_, fun k d u hd hu => ?_⟩
  · simp only at hd ⊢
    by_cases ek : i = k
    · subst ek
      rw [List.getElem?_set_self hlt] at hd
      injection hd with hd; subst hd
      exact ⟨bit_on hon, by rw [ht.2.2.2.1]; exact h0, by rw [ht.2.2.2.1]; exact h100⟩
    · rw [List.getElem?_set_ne ek] at hd
      obtain ⟨q1, q2⟩ := h.on k d hd
      exact ⟨q1.bit, q2⟩
  · simp only at hd hu
    by_cases ek : i = k
    · subst ek
      rw [List.getElem?_set_self hlt] at hd
      rw [List.getElem?_set_self hlt2] at hu
      injection hd with hd; subst hd
      injection hu with hu; subst hu
      rw [ht.2.2.2.1]
      omega
    · rw [List.getElem?_set_ne ek] at hd hu
      have := h.le k d u hd hu
      omega
/-! numbers as cells -/
/-! the goats of a block, and what else it holds -/
structure GtW (L : List Gt) (o n : Nat) (cur cu : Array Value) : Prop where
  size : cu.size = cur.size
  ins : GtIn L o cu
  out : ∀ j, j < o ∨ o + n * 7 ≤ j → cu[j]? = cur[j]?
theorem GtW.set {L : List Gt} {o n i : Nat} {cur cu : Array Value} {g : Gt} (p : Nat → Int) (h : Int) (hW : GtW L o n cur cu) (hl : L.length = n) (hg : L[i]? = some g) : GtW (L.set i (bitG p g h)) o n cur (splice cu (o + i * 7) #[.int .i8 (bitG p g h).x, .int .i8 (bitG p g h).y]) := by
  have ht := bitG_tail p g h
  have hf := hW.ins.fit hg
  have hlt := (List.getElem?_eq_some_iff.1 hg).1
  have hm := Nat.mul_le_mul_right 7 (show i + 1 ≤ n by omega)
  rw [Nat.succ_mul] at hm
  refine ⟨by rw [splice_size _ _ _ (by simp; omega)]; exact hW.size, hW.ins.set hg ht.1 ht.2.1 ht.2.2.1 ht.2.2.2.1 ht.2.2.2.2, fun j hj => ?_⟩
  rw [splice_get _ _ _ (by simp; omega), if_neg (by simp; omega)]
  exact hW.out j hj
end Go.Proofs.Ytnfdefeafhepkaa
namespace Go.Proofs.Ytnfdefeafhepkaa.Wk
set_option linter.unusedVariables false
set_option linter.unusedSimpArgs false
open Go Go.RowKit Mem
variable {P : Program} {n : Nat} {O : List Nat} {w0 : World} {l : List (Nat × Value)} {N L : List (Nat × TypeId × Array Value)} {Q : Exit → Act → World → Prop} {ops : Array Oper} {o : Oper} {rest : List Oper} {k d : Nat} {v : Value} {x y : Operand} {Nok : List (Nat × TypeId × Array Value) → Prop} {pl : Nat → CalmE.Plan (List (Nat × TypeId × Array Value))}
end Go.Proofs.Ytnfdefeafhepkaa.Wk
