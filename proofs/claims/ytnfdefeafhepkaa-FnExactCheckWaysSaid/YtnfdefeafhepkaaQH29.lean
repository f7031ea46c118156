import Derived.Test.YtnfdefeafhepkaaQH28
/- Goats that are fed bite by bite: the reference's. No condition. -/
namespace Go.Proofs.Ytnfdefeafhepkaa
set_option linter.unusedVariables false
set_option linter.unusedSimpArgs false
open Go.RowKit Mem Wk
attribute [local irreducible] Calls Wk.S Wk.C Wk.E Wk.X Wk.T Wk.Y Wk.Z Wk.anV Wk.orV Wk.andV Wk.shlV Wk.shrV Calm.wpLex CalmB.wpLex CalmE.wpLex bfsN
/-- goats in a block of their own -/
theorem GtIn.ap {L : List Gt} {n cap : Nat} {cur : Array Value} (h : GtIn L 0 cur) (hl : L.length = n) (hs : cur.size = cap * 7) (hle : n ≤ cap) (hm : cap ≤ maxLen) : Ap 7 n cap cur (L.map Gt.cells).flatten := by
  have := Pt.ap (sz := 7) (cap := cap) (cur := cur) (xs := L.map Gt.cells) (fun i c hi hc j hj => by
    rw [List.getElem?_map] at hc
    cases hg : L[i]? with
    | none => rw [hg] at hc; cases hc
    | some g => rw [hg] at hc; injection hc with hc; subst hc; have := h i g hg j hj; rwa [show 0 + i * 7 + j = i * 7 + j by omega] at this) (lenGt L) hs (by simpa [hl] using hle) hm
  rwa [List.length_map, hl] at this
theorem GtIn.put {L : List Gt} {o : Nat} {cur : Array Value} (h : GtIn L o cur) {i : Nat} {g g' : Gt} (hg : L[i]? = some g) : GtIn (L.set i g') o (splice cur (o + i * 7) (gtA g')) := fun k d hd j hj => by
  have hf := h.fit hg
  have hs : (gtA g').size = 7 := rfl
  rw [splice_get _ _ _ (by rw [hs]; omega), hs]
  by_cases e : k = i
  · subst e
    rw [List.getElem?_set_self (List.getElem?_eq_some_iff.1 hg).1] at hd
    injection hd with hd; subst hd
    rw [if_pos (by omega), show o + k * 7 + j - (o + k * 7) = j by omega]
    unfold gtA Gt.cells; simp
  · rw [List.getElem?_set_ne (fun e2 => e e2.symm)] at hd
    rw [if_neg]
    · exact h k d hd j hj
    · intro h1
      have : k < i ∨ i < k := by omega
      rcases this with h2 | h2
      · have := Nat.mul_le_mul_right 7 (show k + 1 ≤ i by omega); rw [Nat.succ_mul] at this; omega
      · have := Nat.mul_le_mul_right 7 (show i + 1 ≤ k by omega); rw [Nat.succ_mul] at this; omega
theorem Kn.fresh {w0 w : World} {L : List (Nat × TypeId × Array Value)} (h : Kn [] w0 w L) {x : Nat × TypeId × Array Value} (hx : x ∈ L) : w0.heap.size ≤ x.1 := (h.low x hx).resolve_right (by simp)
end Go.Proofs.Ytnfdefeafhepkaa
