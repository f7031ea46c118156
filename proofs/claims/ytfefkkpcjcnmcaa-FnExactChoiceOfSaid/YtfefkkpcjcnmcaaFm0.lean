/- Cells of slices laid in blocks. Slices of at most 2 to the power 20 elements. -/
import Derived.Test.YtfefkkpcjcnmcaaFrame
import Derived.Test.YtfefkkpcjcnmcaaSquare
import Derived.Test.YtfefkkpcjcnmcaaConv
namespace Go.Proofs.Ytfefkkpcjcnmcaa
set_option linter.unusedVariables false
set_option linter.unusedSimpArgs false
open Go.RowKit Mem

theorem flat_get {sz : Nat} (l : List (List Value)) (hl : ∀ c ∈ l, c.length = sz) (i : Nat) (c : List Value) (hc : l[i]? = some c) (j : Nat) (hj : j < sz) : l.flatten[i * sz + j]? = c[j]? := by
  induction l generalizing i with
  | nil => simp at hc
  | cons d l ih =>
    have hd := hl d (by simp)
    rw [List.flatten_cons]
    match i with
    | 0 => simp at hc; subst hc; rw [List.getElem?_append_left (by omega)]; simp
    | i + 1 =>
      rw [Nat.succ_mul, List.getElem?_append_right (by omega)]
      rw [show i * sz + sz + j - d.length = i * sz + j by omega]
      exact ih (fun c hc => hl c (List.mem_cons_of_mem _ hc)) i (by simpa using hc)
theorem flat_len {sz : Nat} (l : List (List Value)) (hl : ∀ c ∈ l, c.length = sz) : l.flatten.length = l.length * sz := by
  induction l with
  | nil => simp
  | cons d l ih => rw [List.flatten_cons, List.length_append, ih fun c hc => hl c (List.mem_cons_of_mem _ hc), hl d (by simp), List.length_cons, Nat.succ_mul]; omega
/-- A block that holds these cells reads as a slice. -/
theorem Sl.of_block {w : World} {sz g n : Nat} {T : TypeId} {cs : Array Value} {l : List (List Value)} (hl : ∀ c ∈ l, c.length = sz) (hn : l.length = n) (hm : n ≤ maxLen) (hg : w.heap[g]? = some (.cells cs T (0, 0))) (hcs : ∀ j, j < l.length * sz → cs[j]? = l.flatten[j]?) : Sl w sz (.slice (some ⟨g, 0, none⟩) n n) l := by
  subst hn
  refine ⟨_, _, rfl, Nat.le_refl _, hm, fun i c hc => ⟨hl c (List.mem_of_getElem? hc), g, 0, rfl, fun j u hu => ?_⟩⟩
  have hj : j < sz := by rw [← hl c (List.mem_of_getElem? hc)]; exact (List.getElem?_eq_some_iff.1 hu).1
  have hi : i < l.length := (List.getElem?_eq_some_iff.1 hc).1
  have hb : i * sz + j < l.length * sz := by
    have := Nat.mul_le_mul_right sz hi
    rw [Nat.succ_mul] at this
    omega
  rw [cell_of_row w g _ cs T (0, 0) hg, Nat.zero_add, hcs _ hb, flat_get l hl i c hc j hj]
  exact hu
theorem copy_prefix {k m : Nat} {o : Array Value} {f c : List Value} (hc : c.length = m) (hfit : k * m + m ≤ o.size) (hf : ∀ j, j < m → f[k * m + j]? = c[j]?) (HP : ∀ j, j < k * m → o[j]? = f[j]?) : ∀ j, j < (k + 1) * m → (splice o (k * m) c.toArray)[j]? = f[j]? := fun j hj => by
  have e1 : (k + 1) * m = k * m + m := Nat.succ_mul k m
  have hs : c.toArray.size = m := by simpa using hc
  rw [splice_get _ _ _ (by rw [hs]; exact hfit), hs]
  by_cases e : k * m ≤ j
  · rw [if_pos ⟨e, by omega⟩, List.getElem?_toArray, ← hf _ (by omega), show k * m + (j - k * m) = j by omega]
  · rw [if_neg (by omega)]; exact HP j (by omega)

end Go.Proofs.Ytfefkkpcjcnmcaa
