import Derived.Test.YtnafnhpajkhgkaaQY34
import Derived.Test.YtnafnhpajkhgkaaQY36
import Derived.Test.YtnafnhpajkhgkaaQY37
/- Marks in lists of lists of cells. No condition but a whole length of at most 2^20. -/
namespace Go.Proofs.Ytnafnhpajkhgkaa
set_option linter.unusedVariables false
set_option linter.unusedSimpArgs false
open Go.RowKit Mem Wk

/-! ## several blocks at once -/
/-- what a callee has done that writes some blocks alone -/
structure UpdL (w w' : World) (L' : List (Nat × TypeId × Array Value)) : Prop where
  os : w'.os = w.os
  tape : w'.tape = w.tape
  output : w'.output = w.output
  size : w.heap.size ≤ w'.heap.size
  keep : ∀ j, j < w.heap.size → (∀ x ∈ L', x.1 ≠ j) → w'.heap[j]? = w.heap[j]?
  has : ∀ x ∈ L', w'.heap[x.1]? = some (.cells x.2.2 x.2.1 (0, 0))
theorem UpdL.of {w0 w : World} {L L' : List (Nat × TypeId × Array Value)} (h : Kn (L'.map (·.1)) w0 w L) (hs : ∀ x ∈ L', x ∈ L) (hl : ∀ x ∈ L, x.1 < w0.heap.size → x ∈ L') : UpdL w0 w L' :=
  ⟨h.os, h.tape, h.output, h.size, fun j hj hx => h.keep j hj fun x hxL e => by
    have := hl x hxL (by rw [e]; exact hj)
    exact hx x this e, fun x hx => h.has x (hs x hx)⟩
attribute [local irreducible] Calls Wk.S Wk.C Wk.E Wk.X Wk.T Wk.Y Wk.andV Wk.shrV Calm.wpLex CalmB.wpLex bfsN
/-! ## marks from a number on -/
def mk8k (k0 : Nat) (j : Nat) : Value := .int .i8 (IntKind.i8.wrap ((k0 : Int) + (j : Int)))
/-! ## marks in all lists -/
def toN (S : List (List Sp)) (k : Nat) : Nat := 1 + 2 * (S.take k).flatten.length
/-- the first k lists bear the marks, the others are as they were; all lie where they lay -/
structure MkSS (S : List (List Sp)) (I I' : List (Nat × Nat × Array Value)) (k : Nat) : Prop where
  len : I'.length = I.length
  same : ∀ j i i', I[j]? = some i → I'[j]? = some i' → i'.1 = i.1 ∧ i'.2.1 = i.2.1 ∧ i'.2.2.size = i.2.2.size ∧ (k ≤ j → i' = i)
  mark : ∀ j i' s, j < k → I'[j]? = some i' → S[j]? = some s → Mkd (mk8k (toN S j)) i'.2.2 (s.length * 2)
theorem MkSS.zero (S : List (List Sp)) (I : List (Nat × Nat × Array Value)) : MkSS S I I 0 := ⟨rfl, fun j i i' h h' => by rw [h] at h'; injection h' with e; subst e; exact ⟨rfl, rfl, rfl, fun _ => rfl⟩, fun j i' s h => by omega⟩
theorem MkSS.step {S : List (List Sp)} {I I' : List (Nat × Nat × Array Value)} {k : Nat} (h : MkSS S I I' k) {i' : Nat × Nat × Array Value} {s : List Sp} (hi : I'[k]? = some i') (hs : S[k]? = some s) {c : Array Value} (hc : c.size = i'.2.2.size) (hM : Mkd (mk8k (toN S k)) c (s.length * 2)) : MkSS S I (I'.set k (i'.1, i'.2.1, c)) (k + 1) := by
  have hlt := (List.getElem?_eq_some_iff.1 hi).1
  refine ⟨by rw [List.length_set]; exact h.len, fun j i j' h1 h2 => ?_, fun j j' t hj h1 h2 => ?_⟩
  · rw [List.getElem?_set] at h2
    split at h2
    · rename_i e; subst e
      injection h2 with h2; subst h2
      have := h.same _ _ _ h1 hi
      exact ⟨this.1, this.2.1, by rw [← this.2.2.1]; exact hc, fun hle => by omega⟩
    · have := h.same _ _ _ h1 h2
      exact ⟨this.1, this.2.1, this.2.2.1, fun hle => this.2.2.2 (by omega)⟩
  · rw [List.getElem?_set] at h1
    split at h1
    · rename_i e; subst e
      injection h1 with h1; subst h1
      rw [hs] at h2; injection h2 with h2; subst h2
      exact hM
    · exact h.mark j j' t (by omega) h1 h2
theorem itV_get {S : List (List Sp)} {I : List (Nat × Nat × Array Value)} {k : Nat} {s : List Sp} {i : Nat × Nat × Array Value} (hs : S[k]? = some s) (hi : I[k]? = some i) : (itV S I)[k]? = some (Value.slice (some ⟨i.1, 0, none⟩) s.length i.2.1) := by
  unfold itV; rw [List.getElem?_zipWith, hs, hi]
theorem Ap1_getM {n cap : Nat} {cur : Array Value} {V : List Value} (h : Ap 1 n cap cur V) {k : Nat} {v : Value} (hk : V[k]? = some v) : cur[0 + k * 1]? = some v := by
  have h1 := h.take
  rw [Nat.mul_one] at h1
  have h2 : (cur.toList.take n)[k]? = some v := by rw [h1]; exact hk
  rw [List.getElem?_take] at h2
  split at h2
  · simpa using h2
  · cases h2
end Go.Proofs.Ytnafnhpajkhgkaa
