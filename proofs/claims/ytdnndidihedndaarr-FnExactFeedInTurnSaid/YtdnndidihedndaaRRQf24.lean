import Derived.Test.YtdnndidihedndaaRRQf06
import Derived.Test.YtdnndidihedndaaRRQf09
/- Stakes: validity. No condition. -/
namespace Go.Proofs.YtdnndidihedndaaRR
set_option linter.unusedVariables false
set_option linter.unusedSimpArgs false
open Go.RowKit Mem
attribute [local irreducible] Calm.wpLex
theorem Mem.Own.tail {B : Nat} {w0 w : World} {x : Nat × TypeId × Array Value} {L : List (Nat × TypeId × Array Value)} (h : Own B [] w0 w (x :: L)) : Own B [] w0 w L :=
  h.drop 1 (fun y hy => by
    have : y ∈ x :: L := List.mem_of_mem_take hy
    rcases h.low y this with e | e
    · exact e
    · cases e)
theorem block_below {w w' : World} {g : Nat} {o : Obj} (h : w.heap[g]? = some o) (hb : Below w.heap.size w w') : w'.heap[g]? = some o := by
  rw [hb.block g (Array.getElem?_eq_some_iff.1 h).1]; exact h
theorem Sl.take {w : World} {sz : Nat} {A : Option Addr} {n cap : Nat} {xs : List (List Value)} (h : Sl w sz (.slice A n cap) xs) (k : Nat) (hk : k ≤ xs.length) : Sl w sz (.slice A k cap) (xs.take k) := by
  obtain ⟨A', cap', hv, h1, h2, h3⟩ := h
  injection hv with e1 e2 e3
  subst e1; subst e3
  refine ⟨A, cap, ?_, by rw [List.length_take]; omega, h2, fun i c hc => ?_⟩
  · rw [List.length_take, Nat.min_eq_left hk]
  · rw [List.getElem?_take] at hc
    split at hc
    · exact h3 i c hc
    · cases hc

end Go.Proofs.YtdnndidihedndaaRR
/- Stakes: validity, both. No condition. -/
namespace Go.Proofs.YtdnndidihedndaaRR
set_option linter.unusedVariables false
set_option linter.unusedSimpArgs false
open Go.RowKit Mem
attribute [local irreducible] Calm.wpLex
theorem valid_small {p : Nat → Int} (h : validP p = true) : p 0 ≤ 10 ∧ p 1 ≤ 10 := by
  unfold validP inB at h
  simp at h
  omega
end Go.Proofs.YtdnndidihedndaaRR
