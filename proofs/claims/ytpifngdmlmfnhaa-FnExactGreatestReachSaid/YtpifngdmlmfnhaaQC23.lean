import Derived.Test.YtpifngdmlmfnhaaQC05
import Derived.Test.YtpifngdmlmfnhaaQC15
import Derived.Test.YtpifngdmlmfnhaaQC18
import Derived.Test.YtpifngdmlmfnhaaQC19
import Derived.Test.YtpifngdmlmfnhaaQC20
import Derived.Test.YtpifngdmlmfnhaaQC22
/- Tables of flags; a look at the program's table of steps; the cells of a table of flags. No condition. -/
namespace Go.Proofs.Ytpifngdmlmfnhaa
set_option linter.unusedVariables false
set_option linter.unusedSimpArgs false
open Go.RowKit Mem Wk
attribute [local irreducible] Calls Wk.S Wk.C Wk.E Wk.X Wk.T Wk.Y Wk.andV Wk.shrV Calm.wpLex CalmB.wpLex bfsN
/-- A table of 100 flags. -/
structure GB (f : Nat → Bool) (cs : Array Value) : Prop where
  size : cs.size = 100
  get : ∀ j, j < 100 → cs[j]? = some (.bool (f j))
theorem GB.at_ {f : Nat → Bool} {cs : Array Value} (h : GB f cs) {x y : Nat} (hx : x < 10) (hy : y < 10) : cs[0 + y * 10 + x * 1]? = some (.bool (f (ci ⟨(x : Int), (y : Int)⟩))) := by
  have e : 0 + y * 10 + x * 1 = ci ⟨(x : Int), (y : Int)⟩ := by unfold ci; simp
  rw [e]; exact h.get _ (ci_lt ⟨by show (0 : Int) ≤ (x : Int); omega, by show (x : Int) < 10; omega, by show (0 : Int) ≤ (y : Int); omega, by show (y : Int) < 10; omega⟩)
theorem GB.one {f : Nat → Bool} {cs : Array Value} (h : GB f cs) : ∀ u ∈ cs.toList, u.oneCell' = true := by
  intro u hu
  obtain ⟨j, hj⟩ := List.mem_iff_getElem?.1 hu
  rw [Array.getElem?_toList] at hj
  have hlt := (Array.getElem?_eq_some_iff.1 hj).1
  rw [h.size] at hlt
  rw [h.get j hlt] at hj
  injection hj with hj; subst hj; rfl
theorem GB.uniq {f : Nat → Bool} {a b : Array Value} (h : GB f a) (h' : GB f b) : a = b := by
  apply Array.ext (by rw [h.size, h'.size])
  intro i h1 h2
  have e1 := h.get i (by rw [h.size] at h1; exact h1)
  have e2 := h'.get i (by rw [h'.size] at h2; exact h2)
  rw [Array.getElem?_eq_getElem h1] at e1
  rw [Array.getElem?_eq_getElem h2] at e2
  injection e1 with e1; injection e2 with e2; rw [e1, e2]
theorem GB.congr {f g : Nat → Bool} {cs : Array Value} (h : GB f cs) (he : ∀ j, j < 100 → f j = g j) : GB g cs := ⟨h.size, fun j hj => by rw [← he j hj]; exact h.get j hj⟩
theorem setB {f : Nat → Bool} {c cs : Array Value} (h : GB f cs) (hc : c.size = 100) : Wk.Set c 0 cs cs := set_whole (by rw [h.size, hc]) h.one
def gbA (f : Nat → Bool) : Array Value := ((List.range 100).map fun j => Value.bool (f j)).toArray
theorem gbA_ok (f : Nat → Bool) : GB f (gbA f) := ⟨by simp [gbA], fun j hj => by simp [gbA, hj]⟩
def zFl : Array Value := (List.replicate 100 (Value.bool false)).toArray
theorem zFl_ok : GB (fun _ => false) zFl := ⟨by kernel_rfl, fun j hj => by
  show (List.replicate 100 (Value.bool false)).toArray[j]? = _
  rw [List.getElem?_toArray, List.getElem?_replicate, if_pos hj]⟩
theorem zF1010 : (Try.prog.info? 158).map (·.zero) = some (some (.agg zFl)) := by kernel_rfl
theorem bF1010 (w : World) : (Instr.build 158 #[]).run Try.prog w = .ok (.agg zFl) w := by kernel_rfl
/-- the first n places of a table of flags -/
def upto (f : Nat → Bool) (n : Nat) : Nat → Bool := fun j => decide (j < n) && f j
theorem GB.put {f : Nat → Bool} {cs : Array Value} {x y : Nat} {b : Bool} (h : GB (upto f (y * 10 + x)) cs) (hx : x < 10) (hy : y < 10) (hb : b = f (ci ⟨(x : Int), (y : Int)⟩)) : GB (upto f (y * 10 + (x + 1))) (cs.setIfInBounds (0 + y * 10 + x * 1) (.bool b)) := by
  have e : 0 + y * 10 + x * 1 = y * 10 + x := by omega
  have e2 : ci ⟨(x : Int), (y : Int)⟩ = y * 10 + x := by unfold ci; simp
  rw [e]; rw [e2] at hb; subst hb
  refine ⟨by simp [h.size], fun j hj => ?_⟩
  by_cases ej : j = y * 10 + x
  · subst ej
    have hs := h.size
    simp [hs, hj, upto]
  · rw [Array.getElem?_setIfInBounds_ne (by omega), h.get j hj]
    show some (Value.bool (decide (j < y * 10 + x) && f j)) = some (Value.bool (decide (j < y * 10 + (x + 1)) && f j))
    rw [show decide (j < y * 10 + x) = decide (j < y * 10 + (x + 1)) from decide_eq_decide.2 (by omega)]
set_option maxRecDepth 100000 in
theorem farAt_any (D : Nat → Int) (tab : Array Value) (T : TypeId) (g : Nat) (x y : Int) (w : World) (hT : GI .i16 1 D tab) (hD : ∀ j, 0 ≤ D j ∧ D j ≤ 101) (hg : w.heap[g]? = some (.cells tab T (0, 0))) (hx : 0 ≤ x ∧ x < 10) (hy : 0 ≤ y ∧ y < 10) :
    Calls Try.prog 140 #[.pointer (some ⟨g, 0, none⟩), .agg #[.int .i8 x, .int .i8 y]] w fun e w' => e = .returned (.int .i64 (D (ci ⟨x, y⟩) - 1)) ∧ Below w.heap.size w w' := by
  have hb := hD (ci ⟨x, y⟩)
  refine enter2 Try.func140 rfl rfl rfl (Own.start w) ?_
  repeat' (first
    | (refine s_g ?_; first
      | (refine s_k 0 rfl ?_; refine s_val rfl rfl rfl (r_move rfl rfl) ?_)
      | (refine s_k 23 rfl ?_; first | refine s_val rfl rfl rfl (r_field tb rfl rfl rfl) ?_ | refine s_val rfl rfl rfl (r_fieldS tb rfl rfl rfl) ?_)
      | (refine s_k 8 rfl ?_; first | (refine' s_val rfl rfl rfl (r_ldv rfl rfl ?qm ?qv) ?_; (case qm => (exact zMm)); (case qv => (first | exact ldvL tb rfl rfl | exact ldv1 tb rfl (by assumption) | exact ldv1 tb rfl (hT.at_ hx hy) | exact zLd))) | (refine' s_val rfl rfl rfl (r_ldo rfl rfl ?qw (by simp) ?qv) ?_; (case qw => assumption); (case qv => (first | exact ldvL tb rfl rfl | exact ldv1 tb rfl (by assumption) | exact ldv1 tb rfl (hT.at_ hx hy) | exact zLd))))
      | (refine s_k 1 rfl ?_; refine s_val rfl rfl rfl (r_assign rfl rfl) ?_)
      | (refine s_k 15 rfl ?_; refine s_val rfl rfl rfl (r_conv tb rfl rfl rfl rfl (wrap_in (by simp only [lo, hi]; omega))) ?_)
      | (refine s_k 25 rfl ?_; first | refine s_val rfl rfl rfl (r_ixN tb rfl rfl rfl rfl (by omega)) ?_ | refine s_val rfl rfl rfl (r_ixA tb rfl rfl rfl rfl (by omega) (by omega)) ?_ | refine s_val rfl rfl rfl (r_ixO tb rfl rfl rfl rfl (by omega)) ?_)
      | (refine s_k 4 rfl ?_; first | refine s_boxA rfl rfl rfl rfl rfl fun blk => ?_ | refine s_box1 rfl rfl rfl rfl rfl rfl fun blk => ?_)
      | (refine s_k 12 rfl ?_; refine s_val rfl rfl rfl (r_nil rfl rfl) ?_)
      | refine s_nil ?_)
    | (refine c_g ?_; first | refine c_seq ?_ | refine c_region ?_ | (refine c_gc ?_; first | refine c_cond1 rfl zTr ?_ | refine c_cond0 rfl zTr ?_ | refine z_condd1 rfl ?_ | refine z_condd0 rfl ?_ | refine z_conddn1 rfl ?_ | refine z_conddn0 rfl ?_ | refine c_condd rfl (fun hc => ?_) (fun hc => ?_) | refine c_conddn rfl (fun hc => ?_) (fun hc => ?_) | refine c_condn rfl (fun hc => ?_) (fun hc => ?_) | refine c_cond rfl (fun hc => ?_) (fun hc => ?_)) | refine c_block ?_ | refine c_skip ?_ | refine c_exit ?_ | refine c_ret ?_)
    | (refine e_g ?_; first | refine e_then ?_ | refine e_blkn ?_ | refine e_thenx ?_ | refine e_thenr ?_ | refine e_blkr ?_ | refine e_blkx ?_ | refine e_blky rfl ?_)
    | (refine x_g ?_; first
      | (refine x_k 0 rfl ?_; (refine x_val rfl rfl rfl (r_move rfl rfl) ?hp ?_; (case hp => exact rfl)))
      | (refine x_k 23 rfl ?_; first | (refine x_val rfl rfl rfl (r_field tb rfl rfl rfl) ?hp ?_; (case hp => exact rfl)) | (refine x_val rfl rfl rfl (r_fieldS tb rfl rfl rfl) ?hp ?_; (case hp => exact rfl)))
      | (refine x_k 8 rfl ?_; first | (refine' x_val rfl rfl rfl (r_ldv rfl rfl ?qm ?qv) ?hp ?_; (case qm => (exact zMm)); (case qv => (first | exact ldvL tb rfl rfl | exact ldv1 tb rfl (by assumption) | exact ldv1 tb rfl (hT.at_ hx hy) | exact zLd)); (case hp => exact rfl)) | (refine' x_val rfl rfl rfl (r_ldo rfl rfl ?qw (by simp) ?qv) ?hp ?_; (case qw => assumption); (case qv => (first | exact ldvL tb rfl rfl | exact ldv1 tb rfl (by assumption) | exact ldv1 tb rfl (hT.at_ hx hy) | exact zLd)); (case hp => exact rfl)))
      | (refine x_k 1 rfl ?_; (refine x_val rfl rfl rfl (r_assign rfl rfl) ?hp ?_; (case hp => exact rfl)))
      | (refine x_k 15 rfl ?_; (refine x_val rfl rfl rfl (r_conv tb rfl rfl rfl rfl (wrap_in (by simp only [lo, hi]; omega))) ?hp ?_; (case hp => exact rfl)))
      | (refine x_k 25 rfl ?_; first | (refine x_val rfl rfl rfl (r_ixN tb rfl rfl rfl rfl (by omega)) ?hp ?_; (case hp => exact rfl)) | (refine x_val rfl rfl rfl (r_ixA tb rfl rfl rfl rfl (by omega) (by omega)) ?hp ?_; (case hp => exact rfl)) | (refine x_val rfl rfl rfl (r_ixO tb rfl rfl rfl rfl (by omega)) ?hp ?_; (case hp => exact rfl)))
      | (refine x_k 4 rfl ?_; (refine x_boxA rfl rfl rfl rfl rfl ?hp (fun blk => ?_); (case hp => exact rfl)))
      | (refine x_k 12 rfl ?_; (refine x_val rfl rfl rfl (r_nil rfl rfl) ?hp ?_; (case hp => exact rfl)))
      | refine x_nil0 ?_
      | refine x_nil ?_)
    | (refine' c_drawX (id := 1) [(Sum.inl _ : Calm.Plan), (Sum.inl _ : Calm.Plan), (Sum.inl _ : Calm.Plan), (Sum.inl _ : Calm.Plan), (Sum.inl _ : Calm.Plan), (Sum.inl _ : Calm.Plan), (Sum.inl _ : Calm.Plan), (Sum.inl _ : Calm.Plan), (Sum.inl _ : Calm.Plan), (Sum.inl _ : Calm.Plan), (Sum.inl _ : Calm.Plan)] (by kernel_rfl) (by kernel_rfl) (by kernel_rfl) ?_)
    | (refine e_ret1 (by simp) rfl (re_tmp rfl) fun w hL => ⟨rfl, hL.toBelow⟩))
/-- Two results: a slice that the callee has made, and a code. -/
def NewS2 (T : TypeId) (sz : Nat) (xs : List Value) (c : Int) (w : World) (e : Ending) (w' : World) : Prop := ∃ g k cap cur, e = .returned (.tuple #[.slice (some ⟨g, 0, none⟩) k cap, .int .i64 c]) ∧ Ap sz k cap cur xs ∧ w.heap.size ≤ g ∧ w'.heap[g]? = some (.cells cur T (0, 0)) ∧ Below w.heap.size w w'
theorem NewS2.of {T : TypeId} {sz k cap g : Nat} {c : Int} {xs : List Value} {cur : Array Value} {w0 w : World} {L : List (Nat × TypeId × Array Value)} (hA : Ap sz k cap cur xs) (hL : Kn [] w0 w L) (hm : (g, T, cur) ∈ L) : NewS2 T sz xs c w0 (.returned (.tuple #[.slice (some ⟨g, 0, none⟩) k cap, .int .i64 c])) w :=
  ⟨g, k, cap, cur, rfl, hA, (hL.low _ hm).resolve_right (by simp), hL.has _ hm, hL.toBelow⟩
end Go.Proofs.Ytpifngdmlmfnhaa
/- Cells within steps: both functions. No condition. -/
namespace Go.Proofs.Ytpifngdmlmfnhaa
set_option linter.unusedVariables false
set_option linter.unusedSimpArgs false
open Go.RowKit Mem Wk
attribute [local irreducible] Calls Wk.S Wk.C Wk.E Wk.X Wk.T Wk.Y Wk.andV Wk.shrV Calm.wpLex CalmB.wpLex bfsN
theorem one_slA (o : Sp) {w : World} {b : Nat} {T : TypeId} (h : w.heap[b]? = some (.cells #[.int .i8 o.x, .int .i8 o.y] T (0, 0))) : SlA [] w 2 (some ⟨b, 0, none⟩) ([o].map Sp.cells) := by
  have hA : Ap 2 1 1 #[.int .i8 o.x, .int .i8 o.y] (([o].map Sp.cells).flatten) := ⟨rfl, Nat.le_refl _, by unfold maxLen; simp, rfl, rfl⟩
  exact hA.slA (lenSp [o]) h
/-- wide and high of a pasture that has a cell -/
theorem dims {p : Nat → Int} {x y : Int} (ha : p 0 ≤ 10) (hb : p 1 ≤ 10) (hc : isC (p 0) (p 1) x y = true) : p 0 = ((p 0).toNat : Int) ∧ p 1 = ((p 1).toNat : Int) ∧ (p 0).toNat ≤ 10 ∧ (p 1).toNat ≤ 10 := by
  unfold isC inB at hc; simp at hc; omega
/-- the cells of a pasture for which something holds -/
def pasL (p : Nat → Int) (f : Sp → Bool) : List Sp := cellL f (p 0).toNat ((p 1).toNat * (p 0).toNat)
theorem pasL_ten {p : Nat → Int} {f g : Sp → Bool} {x y : Int} (ha : p 0 ≤ 10) (hb : p 1 ≤ 10) (hc : isC (p 0) (p 1) x y = true) (h : ∀ c, inR c → f c = (isC (p 0) (p 1) c.x c.y && g c)) : cellL f 10 (10 * 10) = pasL p g := by
  obtain ⟨hW, hH, hW10, hH10⟩ := dims ha hb hc
  unfold pasL
  rw [cellL_ten hW10 hH10 (fun u v hu hv hn => by
    rw [h _ ⟨by show (0 : Int) ≤ (u : Int); omega, by show (u : Int) < 10; omega, by show (0 : Int) ≤ (v : Int); omega, by show (v : Int) < 10; omega⟩]
    have e : isC (p 0) (p 1) (u : Int) (v : Int) = false := by
      rw [hW, hH]; unfold isC inB; simp; omega
    rw [e]; rfl)]
  refine cellL_congr fun u v hu hv => ?_
  rw [h _ ⟨by show (0 : Int) ≤ (u : Int); omega, by show (u : Int) < 10; omega, by show (0 : Int) ≤ (v : Int); omega, by show (v : Int) < 10; omega⟩]
  have e : isC (p 0) (p 1) (u : Int) (v : Int) = true := by
    rw [hW, hH]; unfold isC inB; simp; omega
  rw [e]; rfl
theorem one_isC {p : Nat → Int} {o : Sp} (h : isC (p 0) (p 1) o.x o.y = true) : ∀ c ∈ [o], isC (p 0) (p 1) c.x c.y = true := fun c hc => by simp at hc; subst hc; exact h
def strD (p : Nat → Int) (o : Sp) : Nat → Int := (stepsP p [o]).1
theorem strD_val (p : Nat → Int) {o : Sp} (h : inR o) (j : Nat) : 0 ≤ strD p o j ∧ strD p o j ≤ 101 := stepsP_val p (fun c hc => by simp at hc; subst hc; exact h) j
end Go.Proofs.Ytpifngdmlmfnhaa
/- The yard of a cell, the cells reached from a stake, the grass of cells: the program's. No condition. -/
namespace Go.Proofs.Ytpifngdmlmfnhaa
set_option linter.unusedVariables false
set_option linter.unusedSimpArgs false
open Go.RowKit Mem Wk
attribute [local irreducible] Calls Wk.S Wk.C Wk.E Wk.X Wk.T Wk.Y Wk.andV Wk.shrV Calm.wpLex CalmB.wpLex bfsN
theorem Kn.ne0 {O : List Nat} {w0 w : World} {L : List (Nat × TypeId × Array Value)} {b : Nat × TypeId × Array Value} {c : Nat × TypeId × Array Value} (h : Kn O w0 w (b :: L)) (hm : c ∈ L) : c.1 ≠ b.1 := fun e => by
  have := h.nodup
  simp only [List.map_cons, List.nodup_cons, List.mem_map, not_exists, not_and] at this
  exact this.1 c hm e
theorem Wk.BelowX.blk {g : Nat} {w w' : World} (h : BelowX g w w') {k : Nat} {ob : Obj} (hk : w.heap[k]? = some ob) (hne : k ≠ g) : w'.heap[k]? = some ob := by
  rw [h.block k (Array.getElem?_eq_some_iff.1 hk).1 hne]; exact hk
theorem yardClo_any (D : Nat → Int) (tab : Array Value) (T : TypeId) (g : Nat) (x y : Int) (w : World) (hT : GI .i16 1 D tab) (hD : ∀ j, 0 ≤ D j ∧ D j ≤ 101) (hg : w.heap[g]? = some (.cells tab T (0, 0))) (hx : 0 ≤ x ∧ x < 10) (hy : 0 ≤ y ∧ y < 10) :
    Calls Try.prog 190 #[.agg #[.int .i8 x, .int .i8 y], .pointer (some ⟨g, 0, none⟩)] w fun e w' => e = .returned (.bool (decide (0 ≤ D (ci ⟨x, y⟩) - 1))) ∧ Below w.heap.size w w' := by
  refine enter2 Try.func190 rfl rfl rfl (Own.start w) ?_
  repeat' (first
    | (refine s_g ?_; first
      | (refine s_k 8 rfl ?_; first | (refine' s_val rfl rfl rfl (r_ldv rfl rfl ?qm ?qv) ?_; (case qm => (exact zMm)); (case qv => (exact zLe))) | (refine' s_val rfl rfl rfl (r_ldo rfl rfl ?qw (by simp) ?qv) ?_; (case qw => assumption); (case qv => (exact zLe))))
      | (refine s_k 1 rfl ?_; refine s_val rfl rfl rfl (r_assign rfl rfl) ?_)
      | (refine s_k 13 rfl ?_; refine s_val rfl rfl rfl (r_geq rfl rfl rfl) ?_)
      | (refine s_k 35 rfl ?_; (refine s_call Try.func140 (by kernel_rfl) rfl rfl rfl rfl rfl rfl (fun w hL => farAt_any D tab T g x y _ hT hD (Kn.old hL hg (by simp)) hx hy) ?_))
      | (refine s_k 4 rfl ?_; first | refine s_boxA rfl rfl rfl rfl rfl fun blk => ?_ | refine s_box1 rfl rfl rfl rfl rfl rfl fun blk => ?_)
      | refine s_nil ?_)
    | (refine c_g ?_; first | refine c_seq ?_ | refine c_region ?_ | (refine c_gc ?_; first | refine c_cond1 rfl zTr ?_ | refine c_cond0 rfl zTr ?_ | refine z_condd1 rfl ?_ | refine z_condd0 rfl ?_ | refine z_conddn1 rfl ?_ | refine z_conddn0 rfl ?_ | refine c_condd rfl (fun hc => ?_) (fun hc => ?_) | refine c_conddn rfl (fun hc => ?_) (fun hc => ?_) | refine c_condn rfl (fun hc => ?_) (fun hc => ?_) | refine c_cond rfl (fun hc => ?_) (fun hc => ?_)) | refine c_block ?_ | refine c_skip ?_ | refine c_exit ?_ | refine c_ret ?_)
    | (refine e_g ?_; first | refine e_then ?_ | refine e_blkn ?_ | refine e_thenx ?_ | refine e_thenr ?_ | refine e_blkr ?_ | refine e_blkx ?_ | refine e_blky rfl ?_)
    | (refine e_ret1 (by simp) rfl (re_tmp rfl) fun w hL => ⟨rfl, hL.toBelow⟩))
def yardF (p : Nat → Int) (o c : Sp) : Bool := decide (0 ≤ strD p o (ci c) - 1)
def yardL (p : Nat → Int) (o : Sp) : List Sp := pasL p (yardF p o)
set_option maxRecDepth 100000 in
set_option maxHeartbeats 800000 in
theorem yard_any (p : Nat → Int) (cs : Array Value) (o : Sp) (w : World) (hp : Pv p cs) (ha : p 0 ≤ 10) (hb : p 1 ≤ 10) (hc : isC (p 0) (p 1) o.x o.y = true) :
    Calls Try.prog 105 #[.agg cs, .agg #[.int .i8 o.x, .int .i8 o.y]] w (NewS 88 2 (flS (yardL p o)) w) := by
  have hsz := hp.size
  obtain ⟨hW, hH, hW10, hH10⟩ := dims ha hb hc
  have hr : inR o := isC_range hc
  have hD := strD_val p (o := o) hr
  have hT : GI .i16 1 (strD p o) (giA .i16 1 (strD p o)) := giA_ok .i16 1 (strD p o)
  have hone : ∀ c ∈ [o], inR c := fun c hcm => isC_range (one_isC hc c hcm)
  have hl1 : [o].length ≤ 1048576 := by simp
  refine enter2 Try.func105 rfl rfl rfl (Own.start w) ?_
  repeat' (first
    | (refine s_g ?_; first
      | (refine s_k 8 rfl ?_; first | (refine' s_val rfl rfl rfl (r_ldv rfl rfl ?qm ?qv) ?_; (case qm => (exact zMm)); (case qv => (exact zLe))) | (refine' s_val rfl rfl rfl (r_ldo rfl rfl ?qw (by simp) ?qv) ?_; (case qw => assumption); (case qv => (exact zLe))))
      | (refine s_k 1 rfl ?_; refine s_val rfl rfl rfl (r_assign rfl rfl) ?_)
      | (refine s_k 35 rfl ?_; first | (refine s_call Try.func137 (by kernel_rfl) rfl rfl rfl rfl rfl rfl (fun w hL => far_any p cs [o] _ 0 1 _ hp hone hl1 (one_slA o (hL.at_ m0))) ?_) | (refine s_callN Try.func189 (by kernel_rfl) rfl rfl rfl rfl rfl rfl (fun w hL => cells_any p cs (p 0).toNat (p 1).toNat 190 _ [_] (yardF p o) w hp hW hH hW10 hH10 Try.func190 (by kernel_rfl) rfl (fun x y hx hy w' hb => yardClo_any (strD p o) _ _ _ _ _ w' hT hD (block_below0 (hL.at_ m0) hb) ⟨by omega, by omega⟩ ⟨by omega, by omega⟩)) fun g k cap cur hA => ?_))
      | (refine s_k 4 rfl ?_; first | refine s_boxA rfl rfl rfl rfl rfl fun blk => ?_ | refine s_box1 rfl rfl rfl rfl rfl rfl fun blk => ?_)
      | (refine s_k 9 rfl ?_; (first | refine s_st1 tb rfl rfl rfl rfl rfl rfl rfl rfl ?_ | refine s_stA tb rfl rfl rfl rfl (by first | rfl | assumption | (apply Pv.size; assumption)) rfl rfl ?_); (first | refine' st0 ?qs ?_ | refine' st1 ?qs ?_ | refine' st2 ?qs ?_ | refine' st3 ?qs ?_ | refine' st4 ?qs ?_ | refine' st5 ?qs ?_ | refine' st6 ?qs ?_ | refine' st7 ?qs ?_ | refine' st8 ?qs ?_ | refine' st9 ?qs ?_ | refine' st10 ?qs ?_ | refine' st11 ?qs ?_); (case qs => (first | exact setG (giA_ok _ _ _) zSt_ok.size | exact zSet)))
      | (refine s_k 3 rfl ?_; refine s_allocA (t := 182) rfl zStepsV rfl rfl rfl fun blk => ?_)
      | (refine s_k 18 rfl ?_; refine s_val rfl rfl rfl (r_func rfl rfl rfl) ?_)
      | (refine s_k 6 rfl ?_; refine s_bsl rfl rfl (fun w => slSpot1 _ _ w) rfl rfl rfl fun blk => ?_)
      | refine s_nil ?_)
    | (refine c_g ?_; first | refine c_seq ?_ | refine c_region ?_ | (refine c_gc ?_; first | refine c_cond1 rfl zTr ?_ | refine c_cond0 rfl zTr ?_ | refine z_condd1 rfl ?_ | refine z_condd0 rfl ?_ | refine z_conddn1 rfl ?_ | refine z_conddn0 rfl ?_ | refine c_condd rfl (fun hc => ?_) (fun hc => ?_) | refine c_conddn rfl (fun hc => ?_) (fun hc => ?_) | refine c_condn rfl (fun hc => ?_) (fun hc => ?_) | refine c_cond rfl (fun hc => ?_) (fun hc => ?_)) | refine c_block ?_ | refine c_skip ?_ | refine c_exit ?_ | refine c_ret ?_)
    | (refine e_g ?_; first | refine e_then ?_ | refine e_blkn ?_ | refine e_thenx ?_ | refine e_thenr ?_ | refine e_blkr ?_ | refine e_blkx ?_ | refine e_blky rfl ?_)
    | (refine e_ret1 (by simp) rfl (re_tmp rfl) fun w hL => NewS.of hA hL m0))
theorem pasL_isC {p : Nat → Int} {f : Sp → Bool} {c : Sp} (ha : p 0 ≤ 10) (hb : p 1 ≤ 10) (h : c ∈ pasL p f) : isC (p 0) (p 1) c.x c.y = true ∧ f c = true := by
  have hm := cellL_mem h
  refine ⟨?_, hm.1⟩
  unfold isC inB
  simp
  omega
theorem yard_inR {p : Nat → Int} {o c : Sp} (ha : p 0 ≤ 10) (hb : p 1 ≤ 10) (h : c ∈ yardL p o) : inR c := isC_range (pasL_isC ha hb h).1
theorem inR_ok {c : Sp} (h : inR c) : c.ok := by unfold inR at h; unfold Sp.ok; omega
def reachF (s : Sk) (c : Sp) : Bool := decide (s.r < sqOf ⟨s.x, s.y⟩ c)
set_option maxRecDepth 100000 in
theorem reachClo_any (s : Sk) (T : TypeId) (g : Nat) (c : Sp) (w : World) (hs : s.ok) (hg : w.heap[g]? = some (.cells #[.int .i8 s.x, .int .i8 s.y, .int .i16 s.r] T (0, 0))) (hc : c.ok) :
    Calls Try.prog 194 #[.agg #[.int .i8 c.x, .int .i8 c.y], .pointer (some ⟨g, 0, none⟩)] w fun e w' => e = .returned (.bool (reachF s c)) ∧ Below w.heap.size w w' := by
  have hr : -32768 ≤ s.r ∧ s.r ≤ 32767 := hs.2.2.2.2
  have hso : (Sp.mk s.x s.y).ok := ⟨hs.1, hs.2.1, hs.2.2.1, hs.2.2.2.1⟩
  refine enter2 Try.func194 rfl rfl rfl (Own.start w) ?_
  repeat' (first
    | (refine s_g ?_; first
      | (refine s_k 23 rfl ?_; first | refine s_val rfl rfl rfl (r_field tb rfl rfl rfl) ?_ | refine s_val rfl rfl rfl (r_fieldS tb rfl rfl rfl) ?_)
      | (refine s_k 8 rfl ?_; first | refine s_val rfl rfl rfl (r_ldo rfl rfl hg (by simp) (ldvN tb rfl ext2_0 rfl)) ?_ | (refine' s_val rfl rfl rfl (r_ldv rfl rfl ?qm ?qv) ?_; (case qm => (exact zMm)); (case qv => (exact zLe))) | (refine' s_val rfl rfl rfl (r_ldo rfl rfl ?qw (by simp) ?qv) ?_; (case qw => assumption); (case qv => (exact zLe))))
      | (refine s_k 1 rfl ?_; refine s_val rfl rfl rfl (r_assign rfl rfl) ?_)
      | (refine s_k 13 rfl ?_; refine s_val rfl rfl rfl (r_gtr rfl rfl rfl) ?_)
      | (refine s_k 35 rfl ?_; (refine s_call Try.func108 (by kernel_rfl) rfl rfl rfl rfl rfl rfl (fun w hL => implSquareOf_any ⟨s.x, s.y⟩ c _ hso hc) ?_))
      | (refine s_k 15 rfl ?_; refine s_val rfl rfl rfl (r_conv tb rfl rfl rfl rfl (wrap_in (by simp only [lo, hi]; omega))) ?_)
      | (refine s_k 4 rfl ?_; first | refine s_boxA rfl rfl rfl rfl rfl fun blk => ?_ | refine s_box1 rfl rfl rfl rfl rfl rfl fun blk => ?_)
      | refine s_nil ?_)
    | (refine c_g ?_; first | refine c_seq ?_ | refine c_region ?_ | (refine c_gc ?_; first | refine c_cond1 rfl zTr ?_ | refine c_cond0 rfl zTr ?_ | refine z_condd1 rfl ?_ | refine z_condd0 rfl ?_ | refine z_conddn1 rfl ?_ | refine z_conddn0 rfl ?_ | refine c_condd rfl (fun hc => ?_) (fun hc => ?_) | refine c_conddn rfl (fun hc => ?_) (fun hc => ?_) | refine c_condn rfl (fun hc => ?_) (fun hc => ?_) | refine c_cond rfl (fun hc => ?_) (fun hc => ?_)) | refine c_block ?_ | refine c_skip ?_ | refine c_exit ?_ | refine c_ret ?_)
    | (refine e_g ?_; first | refine e_then ?_ | refine e_blkn ?_ | refine e_thenx ?_ | refine e_thenr ?_ | refine e_blkr ?_ | refine e_blkx ?_ | refine e_blky rfl ?_)
    | (refine x_g ?_; first
      | (refine x_k 23 rfl ?_; first | (refine x_val rfl rfl rfl (r_field tb rfl rfl rfl) ?hp ?_; (case hp => exact rfl)) | (refine x_val rfl rfl rfl (r_fieldS tb rfl rfl rfl) ?hp ?_; (case hp => exact rfl)))
      | (refine x_k 8 rfl ?_; first | (refine x_val rfl rfl rfl (r_ldo rfl rfl hg (by simp) (ldvN tb rfl ext2_0 rfl)) ?hp ?_; (case hp => exact rfl)) | (refine' x_val rfl rfl rfl (r_ldv rfl rfl ?qm ?qv) ?hp ?_; (case qm => (exact zMm)); (case qv => (exact zLe)); (case hp => exact rfl)) | (refine' x_val rfl rfl rfl (r_ldo rfl rfl ?qw (by simp) ?qv) ?hp ?_; (case qw => assumption); (case qv => (exact zLe)); (case hp => exact rfl)))
      | (refine x_k 1 rfl ?_; (refine x_val rfl rfl rfl (r_assign rfl rfl) ?hp ?_; (case hp => exact rfl)))
      | (refine x_k 13 rfl ?_; (refine x_val rfl rfl rfl (r_gtr rfl rfl rfl) ?hp ?_; (case hp => exact rfl)))
      | (refine x_k 35 rfl ?_; (refine x_call Try.func108 (by kernel_rfl) rfl rfl rfl rfl rfl rfl (fun w hL => implSquareOf_any ⟨s.x, s.y⟩ c _ hso hc) ?hp ?_; (case hp => exact rfl)))
      | (refine x_k 15 rfl ?_; (refine x_val rfl rfl rfl (r_conv tb rfl rfl rfl rfl (wrap_in (by simp only [lo, hi]; omega))) ?hp ?_; (case hp => exact rfl)))
      | (refine x_k 4 rfl ?_; (refine x_boxA rfl rfl rfl rfl rfl ?hp (fun blk => ?_); (case hp => exact rfl)))
      | refine x_nil0 ?_
      | refine x_nil ?_)
    | (refine' c_drawX (id := 1) [(Sum.inl _ : Calm.Plan), (Sum.inl _ : Calm.Plan), (Sum.inl _ : Calm.Plan), (Sum.inl _ : Calm.Plan), (Sum.inl _ : Calm.Plan), (Sum.inl _ : Calm.Plan), (Sum.inl _ : Calm.Plan), (Sum.inl _ : Calm.Plan), (Sum.inl _ : Calm.Plan)] (by kernel_rfl) (by kernel_rfl) (by kernel_rfl) ?_)
    | (refine e_ret1 (by simp) rfl (re_tmp rfl) fun w hL => ⟨rfl, hL.toBelow⟩))
def reachL (p : Nat → Int) (s : Sk) : List Sp := (yardL p ⟨s.x, s.y⟩).filter fun c => !reachF s c
set_option maxRecDepth 100000 in
set_option maxHeartbeats 800000 in
theorem reach_any (p : Nat → Int) (cs : Array Value) (s : Sk) (w : World) (hp : Pv p cs) (hs : s.ok) (ha : p 0 ≤ 10) (hb : p 1 ≤ 10) (hc : isC (p 0) (p 1) s.x s.y = true) :
    Calls Try.prog 107 #[.agg cs, .agg #[.int .i8 s.x, .int .i8 s.y, .int .i16 s.r]] w (NewS 88 2 (flS (reachL p s)) w) := by
  have hsz := hp.size
  obtain ⟨hW, hH, hW10, hH10⟩ := dims ha hb hc
  have hlen : (yardL p ⟨s.x, s.y⟩).length ≤ 1048576 := by
    have h1 : (yardL p ⟨s.x, s.y⟩).length ≤ _ := cellL_len (yardF p ⟨s.x, s.y⟩) (p 0).toNat ((p 1).toNat * (p 0).toNat)
    have h2 := Nat.mul_le_mul hH10 hW10
    omega
  refine enter2 Try.func107 rfl rfl rfl (Own.start w) ?_
  repeat' (first
    | (refine s_g ?_; first
      | (refine s_k 23 rfl ?_; first | refine s_val rfl rfl rfl (r_field tb rfl rfl rfl) ?_ | refine s_val rfl rfl rfl (r_fieldS tb rfl rfl rfl) ?_)
      | (refine s_k 8 rfl ?_; first | (refine' s_val rfl rfl rfl (r_ldv rfl rfl ?qm ?qv) ?_; (case qm => (exact zMm)); (case qv => (exact zLe))) | (refine' s_val rfl rfl rfl (r_ldo rfl rfl ?qw (by simp) ?qv) ?_; (case qw => assumption); (case qv => (exact zLe))))
      | (refine s_k 1 rfl ?_; refine s_val rfl rfl rfl (r_assign rfl rfl) ?_)
      | (refine s_k 35 rfl ?_; first | (refine s_callN Try.func105 (by kernel_rfl) rfl rfl rfl rfl rfl rfl (fun w hL => yard_any p cs ⟨s.x, s.y⟩ w hp ha hb hc) fun g k cap cur hA => ?_) | (refine s_callM0 Try.func191 (by kernel_rfl) rfl rfl rfl rfl rfl rfl (fun w hL hg => delS_any (yardL p ⟨s.x, s.y⟩) 194 _ [_] (reachF s) _ _ _ _ w hA hg hlen Try.func194 (by kernel_rfl) rfl (fun c hcm w' hb' => reachClo_any s _ _ c w' hs (hb'.blk (hL.at_ m1) (Kn.ne0 hL m0)) (inR_ok (yard_inR ha hb hcm)))) fun cs hp => ?_))
      | (refine s_k 4 rfl ?_; first | refine s_boxA rfl rfl rfl rfl rfl fun blk => ?_ | refine s_box1 rfl rfl rfl rfl rfl rfl fun blk => ?_)
      | (refine s_k 18 rfl ?_; refine s_val rfl rfl rfl (r_func rfl rfl rfl) ?_)
      | refine s_nil ?_)
    | (refine c_g ?_; first | refine c_seq ?_ | refine c_region ?_ | (refine c_gc ?_; first | refine c_cond1 rfl zTr ?_ | refine c_cond0 rfl zTr ?_ | refine z_condd1 rfl ?_ | refine z_condd0 rfl ?_ | refine z_conddn1 rfl ?_ | refine z_conddn0 rfl ?_ | refine c_condd rfl (fun hc => ?_) (fun hc => ?_) | refine c_conddn rfl (fun hc => ?_) (fun hc => ?_) | refine c_condn rfl (fun hc => ?_) (fun hc => ?_) | refine c_cond rfl (fun hc => ?_) (fun hc => ?_)) | refine c_block ?_ | refine c_skip ?_ | refine c_exit ?_ | refine c_ret ?_)
    | (refine e_g ?_; first | refine e_then ?_ | refine e_blkn ?_ | refine e_thenx ?_ | refine e_thenr ?_ | refine e_blkr ?_ | refine e_blkx ?_ | refine e_blky rfl ?_)
    | (refine e_ret1 (by simp) rfl (re_tmp rfl) fun w hL => NewS.of hp hL m0))
end Go.Proofs.Ytpifngdmlmfnhaa
