/- Plain words: arrays of numbers, spots, pastures as cells. No condition. -/
import Derived.Test.YtfefkkpcjcnmcaaProg
import Derived.Test.YtfefkkpcjcnmcaaMem
import Derived.WalkKit
import Derived.KernelRfl
import Derived.Lib.Hide
import Derived.BigQuiet
import Derived.Deep.QuietTactic
import Derived.Deep.LoopGhost
namespace Go.Proofs.Ytfefkkpcjcnmcaa
set_option linter.unusedVariables false
set_option linter.unusedSimpArgs false
open Go.RowKit Mem

theorem max2_int (k k' : IntKind) (x y : Int) : Builtin.max2 (.int k x) (.int k' y) = pure (.int k (max x y)) := by
  simp only [Builtin.max2, gt_iff_lt]; congr 2; omega
theorem min2_int (k k' : IntKind) (x y : Int) : Builtin.min2 (.int k x) (.int k' y) = pure (.int k (min x y)) := by
  simp only [Builtin.min2]; congr 2; omega
theorem max_two (ats : Array TypeId) (ty : TypeId) (a b : Value) : Builtin.max_ ats ty #[a, b] = (Builtin.max2 a b >>= fun s => pure s) := by simp only [Builtin.max_, List.foldlM_cons, List.foldlM_nil]
theorem min_two (ats : Array TypeId) (ty : TypeId) (a b : Value) : Builtin.min_ ats ty #[a, b] = (Builtin.min2 a b >>= fun s => pure s) := by simp only [Builtin.min_, List.foldlM_cons, List.foldlM_nil]
theorem min_three (ats : Array TypeId) (ty : TypeId) (a b c : Value) : Builtin.min_ ats ty #[a, b, c] = (Builtin.min2 a b >>= fun s => Builtin.min2 s c >>= fun s => pure s) := by simp only [Builtin.min_, List.foldlM_cons, List.foldlM_nil]

/-- n cells, each a number of this kind -/
def IntsOf (k : IntKind) (n : Nat) (cs : Array Value) : Prop := cs.size = n ∧ ∀ j, j < n → ∃ x, cs[j]? = some (.int k x)
theorem IntsOf.one {k : IntKind} {n : Nat} {cs : Array Value} (h : IntsOf k n cs) : ∀ v ∈ cs.toList, v.oneCell' = true := by
  intro v hv
  obtain ⟨j, hj, rfl⟩ := List.mem_iff_getElem.1 hv
  obtain ⟨x, hx⟩ := h.2 j (by simpa [h.1] using hj)
  have : cs.toList[j] = .int k x := by
    have h2 : cs.toList[j]? = some (.int k x) := by simpa using hx
    exact (List.getElem?_eq_some_iff.1 h2).2
  rw [this]; rfl
theorem IntsOf.part {k : IntKind} {n : Nat} {cs : Array Value} (h : IntsOf k n cs) (off m : Nat) (hm : off + m ≤ n) : IntsOf k m (cs.extract off (off + m)) := by
  refine ⟨by have := h.1; simp; omega, fun j hj => ?_⟩
  obtain ⟨x, hx⟩ := h.2 (off + j) (by omega)
  refine ⟨x, ?_⟩
  rw [Array.getElem?_extract, if_pos (by have := h.1; omega)]
  exact hx
theorem arr_ext {n : Nat} {a b : Array Value} (ha : a.size = n) (hb : b.size = n) (h : ∀ j, j < n → a[j]? = b[j]?) : a = b := by
  apply Array.ext_getElem?
  intro j
  by_cases hj : j < n
  · exact h j hj
  · rw [Array.getElem?_eq_none (by omega), Array.getElem?_eq_none (by omega)]
theorem set_prefix {k : Nat} {o cs : Array Value} {v : Value} (hfit : k < o.size) (hv : cs[k]? = some v) (HP : ∀ j, j < k → o[j]? = cs[j]?) : ∀ j, j < k + 1 → (o.setIfInBounds k v)[j]? = cs[j]? := fun j hj => by
  by_cases e : j = k
  · subst e; simp [hfit, hv]
  · rw [Array.getElem?_setIfInBounds_ne (by omega)]; exact HP j (by omega)
theorem splice_prefix {k m : Nat} {o cs : Array Value} (hfit : k * m + m ≤ o.size) (hcs : k * m + m ≤ cs.size) (HP : ∀ j, j < k * m → o[j]? = cs[j]?) : ∀ j, j < (k + 1) * m → (splice o (k * m) (cs.extract (k * m) (k * m + m)))[j]? = cs[j]? := fun j hj => by
  have e1 : (k + 1) * m = k * m + m := Nat.succ_mul k m
  have hs : (cs.extract (k * m) (k * m + m)).size = m := by simp; omega
  rw [splice_get _ _ _ (by rw [hs]; exact hfit), hs]
  by_cases e : k * m ≤ j
  · rw [if_pos ⟨e, by omega⟩, Array.getElem?_extract, if_pos (by omega)]
    congr 1
    omega
  · rw [if_neg (by omega)]; exact HP j (by omega)

/-- n zeros of a kind -/
def zr (k : IntKind) (n : Nat) : Array Value := Array.replicate n (.int k 0)
theorem zr_size (k : IntKind) (n : Nat) : (zr k n).size = n := by simp [zr]
/-- the kind of a pasture's cell -/
def pk (i : Nat) : IntKind := if i < 2 then .i8 else if i < 102 then .i16 else .u16
/-- a pasture's cells: Wide, High, 100 of grass, 10 of east, 10 of south -/
structure Pv (p : Nat → Int) (cs : Array Value) : Prop where
  size : cs.size = 122
  get : ∀ i, i < 122 → cs[i]? = some (.int (pk i) (p i))
  i8 : ∀ i, i < 2 → -128 ≤ p i ∧ p i ≤ 127
  i16 : ∀ i, 2 ≤ i → i < 102 → -32768 ≤ p i ∧ p i ≤ 32767
  u16 : ∀ i, 102 ≤ i → i < 122 → 0 ≤ p i ∧ p i ≤ 65535
theorem Pv.one {p : Nat → Int} {cs : Array Value} (h : Pv p cs) : ∀ v ∈ cs.toList, v.oneCell' = true := by
  intro v hv
  obtain ⟨j, hj, rfl⟩ := List.mem_iff_getElem.1 hv
  have hj' : j < 122 := by simpa [h.size] using hj
  have h2 : cs.toList[j]? = some (.int (pk j) (p j)) := by simpa using h.get j hj'
  rw [(List.getElem?_eq_some_iff.1 h2).2]; rfl
theorem Pv.g0 {p : Nat → Int} {cs : Array Value} (h : Pv p cs) : cs[0]? = some (.int .i8 (p 0)) := h.get 0 (by omega)
theorem Pv.g1 {p : Nat → Int} {cs : Array Value} (h : Pv p cs) : cs[1]? = some (.int .i8 (p 1)) := h.get 1 (by omega)
theorem Pv.grass {p : Nat → Int} {cs : Array Value} (h : Pv p cs) (i : Nat) (h1 : 2 ≤ i) (h2 : i < 102) : cs[i]? = some (.int .i16 (p i)) := by
  have := h.get i (by omega)
  unfold pk at this
  rwa [if_neg (by omega), if_pos h2] at this
theorem Pv.side {p : Nat → Int} {cs : Array Value} (h : Pv p cs) (i : Nat) (h1 : 102 ≤ i) (h2 : i < 122) : cs[i]? = some (.int .u16 (p i)) := by
  have := h.get i h2
  unfold pk at this
  rwa [if_neg (by omega), if_neg (by omega)] at this
theorem Pv.ints16 {p : Nat → Int} {cs : Array Value} (h : Pv p cs) : IntsOf .i16 100 (cs.extract 2 102) := by
  refine ⟨by have := h.size; simp; omega, fun j hj => ⟨p (2 + j), ?_⟩⟩
  rw [Array.getElem?_extract, if_pos (by have := h.size; omega)]
  exact h.grass _ (by omega) (by omega)
theorem Pv.intsE {p : Nat → Int} {cs : Array Value} (h : Pv p cs) : IntsOf .u16 10 (cs.extract 102 112) := by
  refine ⟨by have := h.size; simp; omega, fun j hj => ⟨p (102 + j), ?_⟩⟩
  rw [Array.getElem?_extract, if_pos (by have := h.size; omega)]
  exact h.side _ (by omega) (by omega)
theorem Pv.intsS {p : Nat → Int} {cs : Array Value} (h : Pv p cs) : IntsOf .u16 10 (cs.extract 112 122) := by
  refine ⟨by have := h.size; simp; omega, fun j hj => ⟨p (112 + j), ?_⟩⟩
  rw [Array.getElem?_extract, if_pos (by have := h.size; omega)]
  exact h.side _ (by omega) (by omega)
/-- the cells of the zero pasture -/
def zP : Array Value := ((List.replicate 2 (Value.int .i8 0)) ++ List.replicate 100 (Value.int .i16 0) ++ List.replicate 20 (Value.int .u16 0)).toArray
theorem zP_pv : Pv (fun _ => 0) zP := by
  refine ⟨rfl, fun i hi => ?_, fun _ _ => by omega, fun _ _ _ => by omega, fun _ _ _ => by omega⟩
  simp only [zP, pk, List.getElem?_toArray, List.append_assoc]
  by_cases h1 : i < 2
  · rw [List.getElem?_append_left (by simpa using h1), if_pos h1, List.getElem?_replicate, if_pos h1]
  · rw [List.getElem?_append_right (by simp; omega), if_neg h1, List.length_replicate]
    by_cases h2 : i < 102
    · rw [List.getElem?_append_left (by simp; omega), if_pos h2, List.getElem?_replicate, if_pos (by omega)]
    · rw [List.getElem?_append_right (by simp; omega), if_neg h2, List.length_replicate, List.getElem?_replicate, if_pos (by omega)]
theorem Pv.ext {p q : Nat → Int} {cs ds : Array Value} (h : Pv p cs) (h' : Pv q ds) (he : ∀ i, i < 122 → p i = q i) : cs = ds :=
  arr_ext h.size h'.size fun j hj => by rw [h.get j hj, h'.get j hj, he j hj]
end Go.Proofs.Ytfefkkpcjcnmcaa
