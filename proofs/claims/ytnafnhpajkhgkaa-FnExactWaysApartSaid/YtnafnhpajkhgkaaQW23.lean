import Derived.Test.YtnafnhpajkhgkaaQW04
import Derived.Test.YtnafnhpajkhgkaaQW06
import Derived.Test.YtnafnhpajkhgkaaQW07
import Derived.Test.YtnafnhpajkhgkaaQW09
import Derived.Test.YtnafnhpajkhgkaaQW12
import Derived.Test.YtnafnhpajkhgkaaQW13
import Derived.Test.YtnafnhpajkhgkaaQW16
import Derived.Test.YtnafnhpajkhgkaaQW19
import Derived.Test.YtnafnhpajkhgkaaQW20
import Derived.Test.YtnafnhpajkhgkaaQW21
import Derived.Test.YtnafnhpajkhgkaaQW22
/- Tables of flags; a look at the program's table of steps; the cells of a table of flags. No condition. -/
namespace Go.Proofs.Ytnafnhpajkhgkaa
set_option linter.unusedVariables false
set_option linter.unusedSimpArgs false
open Go.RowKit Mem Wk
attribute [local irreducible] Calls Wk.S Wk.C Wk.E Wk.X Wk.T Wk.Y Wk.anV Wk.orV Wk.andV Wk.shlV Wk.shrV Calm.wpLex CalmB.wpLex bfsN
/-- A table of 100 flags. -/
structure GB (f : Nat → Bool) (cs : Array Value) : Prop where
  size : cs.size = 100
  get : ∀ j, j < 100 → cs[j]? = some (.bool (f j))
theorem GB.at_ {f : Nat → Bool} {cs : Array Value} (h : GB f cs) {x y : Nat} (hx : x < 10) (hy : y < 10) : cs[0 + y * 10 + x * 1]? = some (.bool (f (ci ⟨(x : Int), (y : Int)⟩))) := by
  have e : 0 + y * 10 + x * 1 = ci ⟨(x : Int), (y : Int)⟩ := by unfold ci; simp
  rw [e]; exact h.get _ (ci_lt ⟨by show (0 : Int) ≤ (x : Int); omega, by show (x : Int) < 10; omega, by show (0 : Int) ≤ (y : Int); omega, by show (y : Int) < 10; omega⟩)
theorem GB.one {f : Nat → Bool} {cs : Array Value} (h : GB f cs) : ∀ u ∈ cs.toList, u.oneCell' = true := by
  intro u hu
  obtain ⟨j, hj⟩ := List.mem_iff_getElem?.1 hu
  rw [Array.getElem?_toList] at hj
  have hlt := (Array.getElem?_eq_some_iff.1 hj).1
  rw [h.size] at hlt
  rw [h.get j hlt] at hj
  injection hj with hj; subst hj; rfl
theorem GB.uniq {f : Nat → Bool} {a b : Array Value} (h : GB f a) (h' : GB f b) : a = b := by
  apply Array.ext (by rw [h.size, h'.size])
  intro i h1 h2
  have e1 := h.get i (by rw [h.size] at h1; exact h1)
  have e2 := h'.get i (by rw [h'.size] at h2; exact h2)
  rw [Array.getElem?_eq_getElem h1] at e1
  rw [Array.getElem?_eq_getElem h2] at e2
  injection e1 with e1; injection e2 with e2; rw [e1, e2]
theorem GB.congr {f g : Nat → Bool} {cs : Array Value} (h : GB f cs) (he : ∀ j, j < 100 → f j = g j) : GB g cs := ⟨h.size, fun j hj => by rw [← he j hj]; exact h.get j hj⟩
theorem setB {f : Nat → Bool} {c cs : Array Value} (h : GB f cs) (hc : c.size = 100) : Wk.Set c 0 cs cs := set_whole (by rw [h.size, hc]) h.one
def gbA (f : Nat → Bool) : Array Value := ((List.range 100).map fun j => Value.bool (f j)).toArray
theorem gbA_ok (f : Nat → Bool) : GB f (gbA f) := ⟨by simp [gbA], fun j hj => by simp [gbA, hj]⟩
def zFl : Array Value := (List.replicate 100 (Value.bool false)).toArray
theorem zFl_ok : GB (fun _ => false) zFl := ⟨by kernel_rfl, fun j hj => by
  show (List.replicate 100 (Value.bool false)).toArray[j]? = _
  rw [List.getElem?_toArray, List.getElem?_replicate, if_pos hj]⟩
theorem zF1010 : (Try.prog.info? 90).map (·.zero) = some (some (.agg zFl)) := by kernel_rfl
theorem bF1010 (w : World) : (Instr.build 90 #[]).run Try.prog w = .ok (.agg zFl) w := by kernel_rfl
/-- the first n places of a table of flags -/
def upto (f : Nat → Bool) (n : Nat) : Nat → Bool := fun j => decide (j < n) && f j
theorem GB.put {f : Nat → Bool} {cs : Array Value} {x y : Nat} {b : Bool} (h : GB (upto f (y * 10 + x)) cs) (hx : x < 10) (hy : y < 10) (hb : b = f (ci ⟨(x : Int), (y : Int)⟩)) : GB (upto f (y * 10 + (x + 1))) (cs.setIfInBounds (0 + y * 10 + x * 1) (.bool b)) := by
  have e : 0 + y * 10 + x * 1 = y * 10 + x := by omega
  have e2 : ci ⟨(x : Int), (y : Int)⟩ = y * 10 + x := by unfold ci; simp
  rw [e]; rw [e2] at hb; subst hb
  refine ⟨by simp [h.size], fun j hj => ?_⟩
  by_cases ej : j = y * 10 + x
  · subst ej
    have hs := h.size
    simp [hs, hj, upto]
  · rw [Array.getElem?_setIfInBounds_ne (by omega), h.get j hj]
    show some (Value.bool (decide (j < y * 10 + x) && f j)) = some (Value.bool (decide (j < y * 10 + (x + 1)) && f j))
    rw [show decide (j < y * 10 + x) = decide (j < y * 10 + (x + 1)) from decide_eq_decide.2 (by omega)]
set_option maxRecDepth 100000 in
theorem farAt_any (D : Nat → Int) (tab : Array Value) (T : TypeId) (g : Nat) (x y : Int) (w : World) (hT : GI .i16 1 D tab) (hD : ∀ j, 0 ≤ D j ∧ D j ≤ 101) (hg : w.heap[g]? = some (.cells tab T (0, 0))) (hx : 0 ≤ x ∧ x < 10) (hy : 0 ≤ y ∧ y < 10) :
    Calls Try.prog 42 #[.pointer (some ⟨g, 0, none⟩), .agg #[.int .i8 x, .int .i8 y]] w fun e w' => e = .returned (.int .i64 (D (ci ⟨x, y⟩) - 1)) ∧ Below w.heap.size w w' := by
  have hb := hD (ci ⟨x, y⟩)
  refine enter2 Try.func42 rfl rfl rfl (Own.start w) ?_
  repeat' (first
    | (refine s_g ?_; first
      | (refine s_k 0 rfl ?_; refine s_val rfl rfl rfl (r_move rfl rfl) ?_)
      | (refine s_k 23 rfl ?_; first | refine s_val rfl rfl rfl (r_field tb rfl rfl rfl) ?_ | refine s_val rfl rfl rfl (r_fieldS tb rfl rfl rfl) ?_)
      | (refine s_k 8 rfl ?_; first | (refine' s_val rfl rfl rfl (r_ldv rfl rfl ?qm ?qv) ?_; (case qm => (exact zMm)); (case qv => (first | exact ldvL tb rfl rfl | exact ldv1 tb rfl (by assumption) | exact ldv1 tb rfl (hT.at_ hx hy) | exact zLd))) | (refine' s_val rfl rfl rfl (r_ldo rfl rfl ?qw (by simp) ?qv) ?_; (case qw => assumption); (case qv => (first | exact ldvL tb rfl rfl | exact ldv1 tb rfl (by assumption) | exact ldv1 tb rfl (hT.at_ hx hy) | exact zLd))))
      | (refine s_k 1 rfl ?_; refine s_val rfl rfl rfl (r_assign rfl rfl) ?_)
      | (refine s_k 15 rfl ?_; refine s_val rfl rfl rfl (r_conv tb rfl rfl rfl rfl (wrap_in (by simp only [lo, hi]; omega))) ?_)
      | (refine s_k 25 rfl ?_; first | refine s_val rfl rfl rfl (r_ixN tb rfl rfl rfl rfl (by omega)) ?_ | refine s_val rfl rfl rfl (r_ixA tb rfl rfl rfl rfl (by omega) (by omega)) ?_ | refine s_val rfl rfl rfl (r_ixO tb rfl rfl rfl rfl (by omega)) ?_)
      | (refine s_k 4 rfl ?_; first | refine s_boxA rfl rfl rfl rfl rfl fun blk => ?_ | refine s_box1 rfl rfl rfl rfl rfl rfl fun blk => ?_)
      | (refine s_k 12 rfl ?_; refine s_val rfl rfl rfl (r_nil rfl rfl) ?_)
      | refine s_nil ?_)
    | (refine c_g ?_; first | refine c_seq ?_ | refine c_region ?_ | (refine c_gc ?_; first | refine c_cond1 rfl zTr ?_ | refine c_cond0 rfl zTr ?_ | refine z_condd1 rfl ?_ | refine z_condd0 rfl ?_ | refine z_conddn1 rfl ?_ | refine z_conddn0 rfl ?_ | refine c_condd rfl (fun hc => ?_) (fun hc => ?_) | refine c_conddn rfl (fun hc => ?_) (fun hc => ?_) | refine c_condn rfl (fun hc => ?_) (fun hc => ?_) | refine c_cond rfl (fun hc => ?_) (fun hc => ?_)) | refine c_block ?_ | refine c_skip ?_ | refine c_exit ?_ | refine c_ret ?_)
    | (refine e_g ?_; first | refine e_then ?_ | refine e_blkn ?_ | refine e_thenx ?_ | refine e_thenr ?_ | refine e_blkr ?_ | refine e_blkx ?_ | refine e_blky rfl ?_)
    | (refine x_g ?_; first
      | (refine x_k 0 rfl ?_; (refine x_val rfl rfl rfl (r_move rfl rfl) ?hp ?_; (case hp => exact rfl)))
      | (refine x_k 23 rfl ?_; first | (refine x_val rfl rfl rfl (r_field tb rfl rfl rfl) ?hp ?_; (case hp => exact rfl)) | (refine x_val rfl rfl rfl (r_fieldS tb rfl rfl rfl) ?hp ?_; (case hp => exact rfl)))
      | (refine x_k 8 rfl ?_; first | (refine' x_val rfl rfl rfl (r_ldv rfl rfl ?qm ?qv) ?hp ?_; (case qm => (exact zMm)); (case qv => (first | exact ldvL tb rfl rfl | exact ldv1 tb rfl (by assumption) | exact ldv1 tb rfl (hT.at_ hx hy) | exact zLd)); (case hp => exact rfl)) | (refine' x_val rfl rfl rfl (r_ldo rfl rfl ?qw (by simp) ?qv) ?hp ?_; (case qw => assumption); (case qv => (first | exact ldvL tb rfl rfl | exact ldv1 tb rfl (by assumption) | exact ldv1 tb rfl (hT.at_ hx hy) | exact zLd)); (case hp => exact rfl)))
      | (refine x_k 1 rfl ?_; (refine x_val rfl rfl rfl (r_assign rfl rfl) ?hp ?_; (case hp => exact rfl)))
      | (refine x_k 15 rfl ?_; (refine x_val rfl rfl rfl (r_conv tb rfl rfl rfl rfl (wrap_in (by simp only [lo, hi]; omega))) ?hp ?_; (case hp => exact rfl)))
      | (refine x_k 25 rfl ?_; first | (refine x_val rfl rfl rfl (r_ixN tb rfl rfl rfl rfl (by omega)) ?hp ?_; (case hp => exact rfl)) | (refine x_val rfl rfl rfl (r_ixA tb rfl rfl rfl rfl (by omega) (by omega)) ?hp ?_; (case hp => exact rfl)) | (refine x_val rfl rfl rfl (r_ixO tb rfl rfl rfl rfl (by omega)) ?hp ?_; (case hp => exact rfl)))
      | (refine x_k 4 rfl ?_; (refine x_boxA rfl rfl rfl rfl rfl ?hp (fun blk => ?_); (case hp => exact rfl)))
      | (refine x_k 12 rfl ?_; (refine x_val rfl rfl rfl (r_nil rfl rfl) ?hp ?_; (case hp => exact rfl)))
      | refine x_nil0 ?_
      | refine x_nil ?_)
    | (refine' c_drawX (id := 1) [(Sum.inl _ : Calm.Plan), (Sum.inl _ : Calm.Plan), (Sum.inl _ : Calm.Plan), (Sum.inl _ : Calm.Plan), (Sum.inl _ : Calm.Plan), (Sum.inl _ : Calm.Plan), (Sum.inl _ : Calm.Plan), (Sum.inl _ : Calm.Plan), (Sum.inl _ : Calm.Plan), (Sum.inl _ : Calm.Plan), (Sum.inl _ : Calm.Plan)] (by kernel_rfl) (by kernel_rfl) (by kernel_rfl) ?_)
    | (refine e_ret1 (by simp) rfl (re_tmp rfl) fun w hL => ⟨rfl, hL.toBelow⟩))
/-- Two results: a slice that the callee has made, and a code. -/
def NewS2 (T : TypeId) (sz : Nat) (xs : List Value) (c : Int) (w : World) (e : Ending) (w' : World) : Prop := ∃ g k cap cur, e = .returned (.tuple #[.slice (some ⟨g, 0, none⟩) k cap, .int .i64 c]) ∧ Ap sz k cap cur xs ∧ w.heap.size ≤ g ∧ w'.heap[g]? = some (.cells cur T (0, 0)) ∧ Below w.heap.size w w'
theorem NewS2.of {T : TypeId} {sz k cap g : Nat} {c : Int} {xs : List Value} {cur : Array Value} {w0 w : World} {L : List (Nat × TypeId × Array Value)} (hA : Ap sz k cap cur xs) (hL : Kn [] w0 w L) (hm : (g, T, cur) ∈ L) : NewS2 T sz xs c w0 (.returned (.tuple #[.slice (some ⟨g, 0, none⟩) k cap, .int .i64 c])) w :=
  ⟨g, k, cap, cur, rfl, hA, (hL.low _ hm).resolve_right (by simp), hL.has _ hm, hL.toBelow⟩
end Go.Proofs.Ytnafnhpajkhgkaa
/- The yard of a cell, the cells reached from a stake, the grass of cells: the program's. No condition. -/
namespace Go.Proofs.Ytnafnhpajkhgkaa
set_option linter.unusedVariables false
set_option linter.unusedSimpArgs false
open Go.RowKit Mem Wk
attribute [local irreducible] Calls Wk.S Wk.C Wk.E Wk.X Wk.T Wk.Y Wk.anV Wk.orV Wk.andV Wk.shlV Wk.shrV Calm.wpLex CalmB.wpLex bfsN
theorem Kn.ne0 {O : List Nat} {w0 w : World} {L : List (Nat × TypeId × Array Value)} {b : Nat × TypeId × Array Value} {c : Nat × TypeId × Array Value} (h : Kn O w0 w (b :: L)) (hm : c ∈ L) : c.1 ≠ b.1 := fun e => by
  have := h.nodup
  simp only [List.map_cons, List.nodup_cons, List.mem_map, not_exists, not_and] at this
  exact this.1 c hm e
theorem Wk.BelowX.blk {g : Nat} {w w' : World} (h : BelowX g w w') {k : Nat} {ob : Obj} (hk : w.heap[k]? = some ob) (hne : k ≠ g) : w'.heap[k]? = some ob := by
  rw [h.block k (Array.getElem?_eq_some_iff.1 hk).1 hne]; exact hk
end Go.Proofs.Ytnafnhpajkhgkaa
/- Stakes: validity. No condition. -/
namespace Go.Proofs.Ytnafnhpajkhgkaa
set_option linter.unusedVariables false
set_option linter.unusedSimpArgs false
open Go.RowKit Mem
attribute [local irreducible] Calm.wpLex
theorem Mem.Own.tail {B : Nat} {w0 w : World} {x : Nat × TypeId × Array Value} {L : List (Nat × TypeId × Array Value)} (h : Own B [] w0 w (x :: L)) : Own B [] w0 w L :=
  h.drop 1 (fun y hy => by
    have : y ∈ x :: L := List.mem_of_mem_take hy
    rcases h.low y this with e | e
    · exact e
    · cases e)
theorem Sl.take {w : World} {sz : Nat} {A : Option Addr} {n cap : Nat} {xs : List (List Value)} (h : Sl w sz (.slice A n cap) xs) (k : Nat) (hk : k ≤ xs.length) : Sl w sz (.slice A k cap) (xs.take k) := by
  obtain ⟨A', cap', hv, h1, h2, h3⟩ := h
  injection hv with e1 e2 e3
  subst e1; subst e3
  refine ⟨A, cap, ?_, by rw [List.length_take]; omega, h2, fun i c hc => ?_⟩
  · rw [List.length_take, Nat.min_eq_left hk]
  · rw [List.getElem?_take] at hc
    split at hc
    · exact h3 i c hc
    · cases hc

end Go.Proofs.Ytnafnhpajkhgkaa
/- Goats: what makes one valid. No condition. -/
namespace Go.Proofs.Ytnafnhpajkhgkaa
set_option linter.unusedVariables false
set_option linter.unusedSimpArgs false
open Go.RowKit Mem
attribute [local irreducible] Calm.wpLex
/-- cells that lie from here on -/
def CellsAt (w : World) (b off : Nat) (c : List Value) : Prop := ∀ (j : Nat) (u : Value), c[j]? = some u → w.cell? ⟨b, off + j, none⟩ = some u
theorem CellsAt.below {w w' : World} {b off : Nat} {c : List Value} (h : CellsAt w b off c) (hb : Below w.heap.size w w') : CellsAt w' b off c := fun j u hu => by
  rw [hb.cell (p := ⟨b, off + j, none⟩) (World.block_lt_of_cell? w _ (h j u hu))]; exact h j u hu
theorem CellsAt.part {w : World} {b off : Nat} {c : List Value} (h : CellsAt w b off c) (k : Nat) {d : List Value} (hd : ∀ (j : Nat) (u : Value), d[j]? = some u → c[k + j]? = some u) : CellsAt w b (off + k) d := fun j u hu => by
  rw [Nat.add_assoc]; exact h _ _ (hd j u hu)
theorem Gt.at_ (g : Gt) : ∀ (j : Nat) (u : Value), (Sp.mk g.x g.y).cells[j]? = some u → g.cells[0 + j]? = some u := fun j u hu => by
  rcases j with _ | _ | j
  · exact hu
  · exact hu
  · cases hu
end Go.Proofs.Ytnafnhpajkhgkaa
/- Fences: hurdles of a pasture, their code; hurdles that are put or taken. No condition. -/
namespace Go.Proofs.Ytnafnhpajkhgkaa
set_option linter.unusedVariables false
set_option linter.unusedSimpArgs false
open Go.RowKit Mem Wk
attribute [local irreducible] Calls Wk.S Wk.C Wk.E Wk.X Wk.T Wk.anV Wk.orV Wk.andV Wk.shlV Wk.shrV Calm.wpLex
def sdOf (s : Bool) : Int := if s then 2 else 1
def isH (p : Nat → Int) (h : Hd) : Bool := isC (p 0) (p 1) h.x h.y && isC (p 0) (p 1) (nextX h.x (sdOf h.s)) (nextY h.y (sdOf h.s))
set_option maxRecDepth 100000 in
theorem l03Side_any (x y : Int) (s : Bool) (w : World) :
    Calls Try.prog 38 #[.agg #[.int .i8 x, .int .i8 y, .bool s]] w fun e w' => e = .returned (.int .i64 (sdOf s)) ∧ Below w.heap.size w w' := by
  refine enter1 Try.func38 rfl rfl rfl (Own.start w) ?_
  repeat' (first
    | (refine s_g ?_; first
      | (refine s_k 23 rfl ?_; first | refine s_val rfl rfl rfl (r_field tb rfl rfl rfl) ?_ | refine s_val rfl rfl rfl (r_fieldS tb rfl rfl rfl) ?_)
      | (refine s_k 8 rfl ?_; first | (refine' s_val rfl rfl rfl (r_ldv rfl rfl ?qm ?qv) ?_; (case qm => (exact zMm)); (case qv => (exact zLe))) | (refine' s_val rfl rfl rfl (r_ldo rfl rfl ?qw (by simp) ?qv) ?_; (case qw => assumption); (case qv => (exact zLe))))
      | (refine s_k 1 rfl ?_; refine s_val rfl rfl rfl (r_assign rfl rfl) ?_)
      | (refine s_k 4 rfl ?_; first | refine s_boxA rfl rfl rfl rfl rfl fun blk => ?_ | refine s_box1 rfl rfl rfl rfl rfl rfl fun blk => ?_)
      | refine s_nil ?_)
    | (refine c_g ?_; first | refine c_seq ?_ | refine c_region ?_ | (refine c_gc ?_; first | refine c_cond1 rfl zTr ?_ | refine c_cond0 rfl zTr ?_ | refine z_condd1 rfl ?_ | refine z_condd0 rfl ?_ | refine z_conddn1 rfl ?_ | refine z_conddn0 rfl ?_ | refine c_condd rfl (fun hc => ?_) (fun hc => ?_) | refine c_conddn rfl (fun hc => ?_) (fun hc => ?_) | refine c_condn rfl (fun hc => ?_) (fun hc => ?_) | refine c_cond rfl (fun hc => ?_) (fun hc => ?_)) | refine c_block ?_ | refine c_skip ?_ | refine c_exit ?_ | refine c_ret ?_)
    | (refine e_g ?_; first | refine e_then ?_ | refine e_blkn ?_ | refine e_thenx ?_ | refine e_thenr ?_ | refine e_blkr ?_ | refine e_blkx ?_ | refine e_blky rfl ?_)
    | (refine e_ret1 (by simp) rfl (re_tmp rfl) fun w hL => ⟨?_, hL.toBelow⟩))
  all_goals (simp [sdOf, *]; done)
end Go.Proofs.Ytnafnhpajkhgkaa
/- Hurdles that are put or taken, one after another. No condition. -/
namespace Go.Proofs.Ytnafnhpajkhgkaa
set_option linter.unusedVariables false
set_option linter.unusedSimpArgs false
open Go.RowKit Mem Wk
attribute [local irreducible] Calls Wk.S Wk.C Wk.E Wk.X Wk.T Wk.anV Wk.orV Wk.andV Wk.shlV Wk.shrV Calm.wpLex
/-- one hurdle after another -/
def foldP (p : Nat → Int) (l : List Hd) (on : Bool) : Nat → Int := l.foldl (fun p h => putP p h.x h.y h.s on) p
theorem foldP_snoc (p : Nat → Int) (l : List Hd) (on : Bool) {k : Nat} {h : Hd} (hk : l[k]? = some h) : foldP p (l.take (k + 1)) on = putP (foldP p (l.take k) on) h.x h.y h.s on := by
  unfold foldP
  rw [List.take_add_one, hk, List.foldl_append]; rfl
def InP (l : List Hd) : Prop := ∀ h ∈ l, (0 ≤ h.x ∧ h.x < 10) ∧ 0 ≤ h.y ∧ h.y < 10
theorem foldP_ex {p : Nat → Int} {cs : Array Value} {on : Bool} (hp : Pv p cs) : ∀ {l : List Hd}, InP l → ∃ c', Pv (foldP p l on) c'
  | [], _ => ⟨cs, hp⟩
  | h :: l, hr => by
    obtain ⟨c1, h1⟩ := putP_ex (x := h.x) (s := h.s) (on := on) hp (hr h (by simp)).2
    exact foldP_ex h1 (l := l) (fun a ha => hr a (by simp [ha]))
set_option maxRecDepth 100000 in
theorem with_any (p : Nat → Int) (cs c' : Array Value) (l : List Hd) (on : Bool) (A : Option Addr) (cap : Nat) (w : World) (hp : Pv p cs) (hS : SlA [] w 3 A (l.map Hd.cells)) (hn : l.length ≤ maxLen) (hr : InP l) (hc' : Pv (foldP p l on) c') :
    Calls Try.prog 29 #[.agg cs, .slice A l.length cap, .bool on] w fun e w' => e = .returned (.agg c') ∧ Below w.heap.size w w' := by
  unfold maxLen at hn
  refine enter3 Try.func29 rfl rfl rfl (Own.start w) ?_
  repeat' (first
    | (refine s_g ?_; first
      | (refine s_k 0 rfl ?_; refine s_val rfl rfl rfl (r_move rfl rfl) ?_)
      | (refine s_k 8 rfl ?_; first | (refine' s_val rfl rfl rfl (r_ldv rfl rfl ?qm ?qv) ?_; (case qm => (exact zMm)); (case qv => (exact zLe))) | (refine' s_val rfl rfl rfl (r_ldo rfl rfl ?qw (by simp) ?qv) ?_; (case qw => assumption); (case qv => (exact zLe))))
      | (refine s_k 13 rfl ?_; first | refine s_val rfl rfl rfl (r_lss rfl rfl rfl) ?_ | refine s_val rfl rfl rfl (r_add rfl rfl rfl (wrap_in (by simp only [lo, hi]; omega))) ?_)
      | (refine s_k 25 rfl ?_; first | refine s_val rfl rfl rfl (r_ixN tb rfl rfl rfl rfl (by omega)) ?_ | refine s_val rfl rfl rfl (r_ixA tb rfl rfl rfl rfl (by omega) (by omega)) ?_ | refine s_val rfl rfl rfl (r_ixO tb rfl rfl rfl rfl (by omega)) ?_)
      | (refine s_k 4 rfl ?_; first | refine s_boxA rfl rfl rfl rfl rfl fun blk => ?_ | refine s_box1 rfl rfl rfl rfl rfl rfl fun blk => ?_)
      | (refine s_k 9 rfl ?_; (first | refine s_st1 tb rfl rfl rfl rfl rfl rfl rfl rfl ?_ | refine s_stA tb rfl rfl rfl rfl (by first | rfl | assumption | (apply Pv.size; assumption)) rfl rfl ?_); (first | refine' st0 ?qs ?_ | refine' st1 ?qs ?_ | refine' st2 ?qs ?_ | refine' st3 ?qs ?_ | refine' st4 ?qs ?_ | refine' st5 ?qs ?_ | refine' st6 ?qs ?_ | refine' st7 ?qs ?_ | refine' st8 ?qs ?_ | refine' st9 ?qs ?_ | refine' st10 ?qs ?_ | refine' st11 ?qs ?_); (case qs => (first | exact zSet)))
      | (refine s_k 3 rfl ?_; refine s_allocA (t := 32) rfl zImplPas rfl rfl rfl fun blk => ?_)
      | (refine s_k 36 rfl ?_; refine s_val rfl rfl rfl (r_len tb rfl rfl rfl) ?_)
      | refine s_nil ?_)
    | (refine c_g ?_; first | refine c_seq ?_ | refine c_region ?_ | (refine c_gc ?_; first | refine c_cond1 rfl zTr ?_ | refine c_cond0 rfl zTr ?_ | refine z_condd1 rfl ?_ | refine z_condd0 rfl ?_ | refine z_conddn1 rfl ?_ | refine z_conddn0 rfl ?_ | refine c_condd rfl (fun hc => ?_) (fun hc => ?_) | refine c_conddn rfl (fun hc => ?_) (fun hc => ?_) | refine c_condn rfl (fun hc => ?_) (fun hc => ?_) | refine c_cond rfl (fun hc => ?_) (fun hc => ?_)) | refine c_block ?_ | refine c_skip ?_ | refine c_exit ?_ | refine c_ret ?_)
    | (refine e_g ?_; first | refine e_then ?_ | refine e_blkn ?_ | refine e_thenx ?_ | refine e_thenr ?_ | refine e_blkr ?_ | refine e_blkx ?_ | refine e_blky rfl ?_))
  rename_i b3
  refine c_loop (ι := Nat × Array Value) (fun i => l.length - i.1) (fun i => i.1 ≤ l.length ∧ Pv (foldP p (l.take i.1) on) i.2) (fun i => [(11, .int .i64 (i.1 : Int)), (10, .int .i64 (l.length : Int)), (9, .slice A l.length cap), (2, .bool on), (3, .pointer (some ⟨b3, 0, none⟩)), (6, .pointer (some ⟨blk, 0, none⟩))]) (fun i => [(blk, 32, zP), (b3, 32, i.2)]) (0, cs) ⟨by simp, hp⟩ ?hs rfl ?_
  case hs => exact sub_cons rfl (sub_cons rfl (sub_cons rfl (sub_cons rfl (sub_cons rfl (sub_cons rfl sub_nil)))))
  rintro ⟨k, cs⟩ ⟨hk, hp⟩
  by_cases hlt : k < l.length
  · have hx : l[k]? = some l[k] := List.getElem?_eq_getElem hlt
    have hx' : (l.map Hd.cells)[k]? = some l[k].cells := by simp [hx]
    have hlt' : k < (l.map Hd.cells).length := by simpa using hlt
    have hr' := hr l[k] (List.getElem_mem hlt)
    generalize l[k] = h at *
    have hsn := foldP_snoc p l on hx
    repeat' (first
      | (refine s_g ?_; first
      | (refine s_k 0 rfl ?_; refine s_val rfl rfl rfl (r_move rfl rfl) ?_)
      | (refine s_k 8 rfl ?_; first | refine s_val rfl rfl rfl (r_ldS tb rfl hS rfl hx' rfl) ?_ | (refine' s_val rfl rfl rfl (r_ldv rfl rfl ?qm ?qv) ?_; (case qm => (exact zMm)); (case qv => (exact zLe))) | (refine' s_val rfl rfl rfl (r_ldo rfl rfl ?qw (by simp) ?qv) ?_; (case qw => assumption); (case qv => (exact zLe))))
      | (refine s_k 13 rfl ?_; first | refine s_val rfl rfl rfl (r_lss rfl rfl rfl) ?_ | refine s_val rfl rfl rfl (r_add rfl rfl rfl (wrap_in (by simp only [lo, hi]; omega))) ?_)
      | (refine s_k 35 rfl ?_; (refine s_callM2 Try.func69 (by kernel_rfl) rfl rfl rfl rfl rfl rfl (fun w hL hg => put_any _ cs _ _ _ _ _ _ hp hg hr'.1 hr'.2) fun cs hp => ?_))
      | (refine s_k 25 rfl ?_; first | refine s_val rfl rfl rfl (r_ixS tb rfl hS rfl rfl rfl (by simp) hlt') ?_ | refine s_val rfl rfl rfl (r_ixN tb rfl rfl rfl rfl (by omega)) ?_ | refine s_val rfl rfl rfl (r_ixA tb rfl rfl rfl rfl (by omega) (by omega)) ?_ | refine s_val rfl rfl rfl (r_ixO tb rfl rfl rfl rfl (by omega)) ?_)
      | (refine s_k 4 rfl ?_; first | refine s_boxA rfl rfl rfl rfl rfl fun blk => ?_ | refine s_box1 rfl rfl rfl rfl rfl rfl fun blk => ?_)
      | (refine s_k 9 rfl ?_; (first | refine s_st1 tb rfl rfl rfl rfl rfl rfl rfl rfl ?_ | refine s_stA tb rfl rfl rfl rfl (by first | rfl | assumption | (apply Pv.size; assumption)) rfl rfl ?_); (first | refine' st0 ?qs ?_ | refine' st1 ?qs ?_ | refine' st2 ?qs ?_ | refine' st3 ?qs ?_ | refine' st4 ?qs ?_ | refine' st5 ?qs ?_ | refine' st6 ?qs ?_ | refine' st7 ?qs ?_ | refine' st8 ?qs ?_ | refine' st9 ?qs ?_ | refine' st10 ?qs ?_ | refine' st11 ?qs ?_); (case qs => (first | exact zSet)))
      | (refine s_k 3 rfl ?_; refine s_allocA (t := 66) rfl zImplHurdle rfl rfl rfl fun blk => ?_)
      | (refine s_k 36 rfl ?_; refine s_val rfl rfl rfl (r_len tb rfl rfl rfl) ?_)
      | refine s_nil ?_)
      | (refine c_g ?_; first | refine c_seq ?_ | refine c_region ?_ | (refine c_gc ?_; first | refine c_cond1 rfl zTr ?_ | refine c_cond0 rfl zTr ?_ | refine z_condd1 rfl ?_ | refine z_condd0 rfl ?_ | refine z_conddn1 rfl ?_ | refine z_conddn0 rfl ?_ | refine c_condd rfl (fun hc => ?_) (fun hc => ?_) | refine c_conddn rfl (fun hc => ?_) (fun hc => ?_) | refine c_condn rfl (fun hc => ?_) (fun hc => ?_) | refine c_cond rfl (fun hc => ?_) (fun hc => ?_)) | refine c_block ?_ | refine c_skip ?_ | refine c_exit ?_ | refine c_ret ?_)
      | (refine e_g ?_; first | refine e_then ?_ | refine e_blkn ?_ | refine e_thenx ?_ | refine e_thenr ?_ | refine e_blkr ?_ | refine e_blkx ?_ | refine e_blky rfl ?_)
      | refine e_drop0 (e_round (k + 1, cs) (by simp; omega) ⟨by simp; omega, by simpa [hsn] using hp⟩ ?hs rfl)
      | (case hs => exact sub_cons rfl (sub_cons rfl (sub_cons rfl (sub_cons rfl (sub_cons rfl (sub_cons rfl sub_nil)))))))
  · have e : cs = c' := by
      simp only at hk hp
      rw [List.take_of_length_le (by omega)] at hp
      exact hp.uniq hc'
    simp only at hk hp hlt
    repeat' (first
      | (refine s_g ?_; first
      | (refine s_k 0 rfl ?_; refine s_val rfl rfl rfl (r_move rfl rfl) ?_)
      | (refine s_k 8 rfl ?_; first | (refine' s_val rfl rfl rfl (r_ldv rfl rfl ?qm ?qv) ?_; (case qm => (exact zMm)); (case qv => (exact zLe))) | (refine' s_val rfl rfl rfl (r_ldo rfl rfl ?qw (by simp) ?qv) ?_; (case qw => assumption); (case qv => (exact zLe))))
      | (refine s_k 13 rfl ?_; first | refine s_val rfl rfl rfl (r_lss rfl rfl rfl) ?_ | refine s_val rfl rfl rfl (r_add rfl rfl rfl (wrap_in (by simp only [lo, hi]; omega))) ?_)
      | (refine s_k 25 rfl ?_; first | refine s_val rfl rfl rfl (r_ixN tb rfl rfl rfl rfl (by omega)) ?_ | refine s_val rfl rfl rfl (r_ixA tb rfl rfl rfl rfl (by omega) (by omega)) ?_ | refine s_val rfl rfl rfl (r_ixO tb rfl rfl rfl rfl (by omega)) ?_)
      | (refine s_k 4 rfl ?_; first | refine s_boxA rfl rfl rfl rfl rfl fun blk => ?_ | refine s_box1 rfl rfl rfl rfl rfl rfl fun blk => ?_)
      | (refine s_k 9 rfl ?_; (first | refine s_st1 tb rfl rfl rfl rfl rfl rfl rfl rfl ?_ | refine s_stA tb rfl rfl rfl rfl (by first | rfl | assumption | (apply Pv.size; assumption)) rfl rfl ?_); (first | refine' st0 ?qs ?_ | refine' st1 ?qs ?_ | refine' st2 ?qs ?_ | refine' st3 ?qs ?_ | refine' st4 ?qs ?_ | refine' st5 ?qs ?_ | refine' st6 ?qs ?_ | refine' st7 ?qs ?_ | refine' st8 ?qs ?_ | refine' st9 ?qs ?_ | refine' st10 ?qs ?_ | refine' st11 ?qs ?_); (case qs => (first | exact zSet)))
      | (refine s_k 36 rfl ?_; refine s_val rfl rfl rfl (r_len tb rfl rfl rfl) ?_)
      | refine s_nil ?_)
      | (refine c_g ?_; first | refine c_seq ?_ | refine c_region ?_ | (refine c_gc ?_; first | refine c_cond1 rfl zTr ?_ | refine c_cond0 rfl zTr ?_ | refine z_condd1 rfl ?_ | refine z_condd0 rfl ?_ | refine z_conddn1 rfl ?_ | refine z_conddn0 rfl ?_ | refine c_condd rfl (fun hc => ?_) (fun hc => ?_) | refine c_conddn rfl (fun hc => ?_) (fun hc => ?_) | refine c_condn rfl (fun hc => ?_) (fun hc => ?_) | refine c_cond rfl (fun hc => ?_) (fun hc => ?_)) | refine c_block ?_ | refine c_skip ?_ | refine c_exit ?_ | refine c_ret ?_)
      | (refine e_g ?_; first | refine e_then ?_ | refine e_blkn ?_ | refine e_thenx ?_ | refine e_thenr ?_ | refine e_blkr ?_ | refine e_blkx ?_ | refine e_blky rfl ?_)
      | (refine e_ret1 (by simp) rfl (re_cell tb rfl m0 rfl (by first | rfl | assumption | (apply Pv.size; assumption))) fun w hL => ⟨by rw [e], hL.toBelow⟩))
theorem hd_self (x y : Int) (s : Bool) : hdX x (sdOf s) = x ∧ hdY y (sdOf s) = y ∧ hdS (sdOf s) = s := by cases s <;> simp [hdX, hdY, hdS, sdOf]
end Go.Proofs.Ytnafnhpajkhgkaa
/- Yards: that one cell can be reached from another is an equivalence; numbers of yards. Plain, no condition. -/
namespace Go.Proofs.Ytnafnhpajkhgkaa
set_option linter.unusedVariables false
set_option linter.unusedSimpArgs false
open Go.RowKit Mem Wk
attribute [local irreducible] bfsN bfs
def cel (p : Nat → Int) (c : Sp) : Prop := isC (p 0) (p 1) c.x c.y = true
theorem nbP_cel {p : Nat → Int} {a b : Sp} (h : b ∈ nbP p a) : cel p b := besL_inR h
theorem besL_ex {p : Nat → Int} {x y : Int} {c : Sp} : ∀ {k : Nat}, c ∈ besL p x y k ↔ ∃ s : Nat, s < k ∧ canB p x y (s : Int) = true ∧ c = ⟨nextX x (s : Int), nextY y (s : Int)⟩
  | k => by
    unfold besL
    rw [List.mem_map]
    constructor
    · rintro ⟨s, hs, rfl⟩
      obtain ⟨h1, h2⟩ := List.mem_filter.1 hs
      exact ⟨s, List.mem_range.1 h1, h2, rfl⟩
    · rintro ⟨s, h1, h2, rfl⟩
      exact ⟨s, List.mem_filter.2 ⟨List.mem_range.2 h1, h2⟩, rfl⟩
theorem nbP_symm {p : Nat → Int} {a b : Sp} (ha : cel p a) (h : b ∈ nbP p a) : a ∈ nbP p b := by
  obtain ⟨s, hs, hc, rfl⟩ := besL_ex.1 h
  unfold canB at hc
  rw [Bool.and_eq_true] at hc
  obtain ⟨h1, h2⟩ := hc
  unfold cel at ha
  refine besL_ex.2 ?_
  have h4 : s = 0 ∨ s = 1 ∨ s = 2 ∨ s = 3 := by omega
  obtain ⟨x, y⟩ := a
  simp only at ha h1 h2 ⊢
  rcases h4 with rfl | rfl | rfl | rfl
  · refine ⟨2, by omega, ?_, ?_⟩
    · unfold canB
      simp [nextX, nextY, hdX, hdY, hdS] at h1 h2 ⊢
      exact ⟨ha, h2⟩
    · simp [nextX, nextY]
  · refine ⟨3, by omega, ?_, ?_⟩
    · unfold canB
      simp [nextX, nextY, hdX, hdY, hdS] at h1 h2 ⊢
      exact ⟨ha, h2⟩
    · simp [nextX, nextY]
  · refine ⟨0, by omega, ?_, ?_⟩
    · unfold canB
      simp [nextX, nextY, hdX, hdY, hdS] at h1 h2 ⊢
      exact ⟨ha, h2⟩
    · simp [nextX, nextY]
  · refine ⟨1, by omega, ?_, ?_⟩
    · unfold canB
      simp [nextX, nextY, hdX, hdY, hdS] at h1 h2 ⊢
      exact ⟨ha, h2⟩
    · simp [nextX, nextY]
end Go.Proofs.Ytnafnhpajkhgkaa
