import Derived.Test.YtpifngdmlmfnhaaQD27
import Derived.Test.YtpifngdmlmfnhaaQD29
/- Goats that are fed in turns: plain words; what stands when a callee has written two blocks and made one. No condition. -/
namespace Go.Proofs.Ytpifngdmlmfnhaa
set_option linter.unusedVariables false
set_option linter.unusedSimpArgs false
open Go.RowKit Mem Wk
attribute [local irreducible] Calls Wk.S Wk.C Wk.E Wk.X Wk.T Wk.Y Wk.anV Wk.orV Wk.andV Wk.shlV Wk.shrV Calm.wpLex CalmB.wpLex CalmE.wpLex bfsN
def gtO : Gt := ⟨0, 0, 0, 0, 0, 0, 0⟩
structure Fd where
  p : Nat → Int
  L : List Gt
  E : List Int
/-- the bite of goat i -/
def fdStep (i : Nat) (s : Fd) : Fd :=
  ⟨bitP s.p (s.L.getD i gtO) ((s.L.getD i gtO).eats - s.E.getD i 0), s.L.set i (bitG s.p (s.L.getD i gtO) ((s.L.getD i gtO).eats - s.E.getD i 0)), s.E.set i (s.E.getD i 0 + bitM s.p (s.L.getD i gtO) ((s.L.getD i gtO).eats - s.E.getD i 0))⟩
structure FdOk (n t : Nat) (s : Fd) : Prop where
  lL : s.L.length = n
  lE : s.E.length = n
  on : ∀ (i : Nat) (g : Gt), s.L[i]? = some g → GtOn s.p g ∧ 0 ≤ g.eats ∧ g.eats ≤ 100
  le : ∀ (i : Nat) (g : Gt) (e : Int), s.L[i]? = some g → s.E[i]? = some e → e ≤ g.eats ∧ -(40000 * (t : Int)) ≤ e
theorem FdOk.step {n t i : Nat} {s : Fd} {g : Gt} {e : Int} {cs : Array Value} (h : FdOk n t s) (hp : Pv s.p cs) (hg : s.L[i]? = some g) (he : s.E[i]? = some e) :
    fdStep i s = ⟨bitP s.p g (g.eats - e), s.L.set i (bitG s.p g (g.eats - e)), s.E.set i (e + bitM s.p g (g.eats - e))⟩ ∧ FdOk n (t + 1) (fdStep i s) := by
  have e1 : s.L.getD i gtO = g := by simp [List.getD_eq_getElem?_getD, hg]
  have e2 : s.E.getD i 0 = e := by simp [List.getD_eq_getElem?_getD, he]
  have hS : fdStep i s = ⟨bitP s.p g (g.eats - e), s.L.set i (bitG s.p g (g.eats - e)), s.E.set i (e + bitM s.p g (g.eats - e))⟩ := by unfold fdStep; rw [e1, e2]
  obtain ⟨hon, h0, h100⟩ := h.on i g hg
  obtain ⟨l1, l2⟩ := h.le i g e hg he
  have hm := bitM_ge (h := g.eats - e) hp hon (by omega)
  have hm2 := bitM_le (p := s.p) (g := g) (h := g.eats - e) (by omega)
  have ht := bitG_tail s.p g (g.eats - e)
  have hlt := (List.getElem?_eq_some_iff.1 hg).1
  have hlt2 := (List.getElem?_eq_some_iff.1 he).1
  refine ⟨hS, ?_⟩
  rw [hS]
  refine ⟨by simp [h.lL], by simp [h.lE], fun k d hd => ?_, fun k d u hd hu => ?_⟩
  · simp only at hd ⊢
    by_cases ek : i = k
    · subst ek
      rw [List.getElem?_set_self hlt] at hd
      injection hd with hd; subst hd
      exact ⟨bit_on hon, by rw [ht.2.2.2.1]; exact h0, by rw [ht.2.2.2.1]; exact h100⟩
    · rw [List.getElem?_set_ne ek] at hd
      obtain ⟨q1, q2⟩ := h.on k d hd
      exact ⟨q1.bit, q2⟩
  · simp only at hd hu
    by_cases ek : i = k
    · subst ek
      rw [List.getElem?_set_self hlt] at hd
      rw [List.getElem?_set_self hlt2] at hu
      injection hd with hd; subst hd
      injection hu with hu; subst hu
      rw [ht.2.2.2.1]
      omega
    · rw [List.getElem?_set_ne ek] at hd hu
      have := h.le k d u hd hu
      omega
/-! numbers as cells -/
/-! the goats of a block, and what else it holds -/
structure GtW (L : List Gt) (o n : Nat) (cur cu : Array Value) : Prop where
  size : cu.size = cur.size
  ins : GtIn L o cu
  out : ∀ j, j < o ∨ o + n * 7 ≤ j → cu[j]? = cur[j]?
theorem GtW.set {L : List Gt} {o n i : Nat} {cur cu : Array Value} {g : Gt} (p : Nat → Int) (h : Int) (hW : GtW L o n cur cu) (hl : L.length = n) (hg : L[i]? = some g) : GtW (L.set i (bitG p g h)) o n cur (splice cu (o + i * 7) #[.int .i8 (bitG p g h).x, .int .i8 (bitG p g h).y]) := by
  have ht := bitG_tail p g h
  have hf := hW.ins.fit hg
  have hlt := (List.getElem?_eq_some_iff.1 hg).1
  have hm := Nat.mul_le_mul_right 7 (show i + 1 ≤ n by omega)
  rw [Nat.succ_mul] at hm
  refine ⟨by rw [splice_size _ _ _ (by simp; omega)]; exact hW.size, hW.ins.set hg ht.1 ht.2.1 ht.2.2.1 ht.2.2.2.1 ht.2.2.2.2, fun j hj => ?_⟩
  rw [splice_get _ _ _ (by simp; omega), if_neg (by simp; omega)]
  exact hW.out j hj
end Go.Proofs.Ytpifngdmlmfnhaa
namespace Go.Proofs.Ytpifngdmlmfnhaa.Wk
set_option linter.unusedVariables false
set_option linter.unusedSimpArgs false
open Go Go.RowKit Mem
variable {P : Program} {n : Nat} {O : List Nat} {w0 : World} {l : List (Nat × Value)} {N L : List (Nat × TypeId × Array Value)} {Q : Exit → Act → World → Prop} {ops : Array Oper} {o : Oper} {rest : List Oper} {k d : Nat} {v : Value} {x y : Operand} {Nok : List (Nat × TypeId × Array Value) → Prop} {pl : Nat → CalmE.Plan (List (Nat × TypeId × Array Value))}
end Go.Proofs.Ytpifngdmlmfnhaa.Wk
/- Goats that are fed bite by bite: the reference's. No condition. -/
namespace Go.Proofs.Ytpifngdmlmfnhaa
set_option linter.unusedVariables false
set_option linter.unusedSimpArgs false
open Go.RowKit Mem Wk
attribute [local irreducible] Calls Wk.S Wk.C Wk.E Wk.X Wk.T Wk.Y Wk.anV Wk.orV Wk.andV Wk.shlV Wk.shrV Calm.wpLex CalmB.wpLex CalmE.wpLex bfsN
/-- goats in a block of their own -/
theorem GtIn.ap {L : List Gt} {n cap : Nat} {cur : Array Value} (h : GtIn L 0 cur) (hl : L.length = n) (hs : cur.size = cap * 7) (hle : n ≤ cap) (hm : cap ≤ maxLen) : Ap 7 n cap cur (L.map Gt.cells).flatten := by
  have := Pt.ap (sz := 7) (cap := cap) (cur := cur) (xs := L.map Gt.cells) (fun i c hi hc j hj => by
    rw [List.getElem?_map] at hc
    cases hg : L[i]? with
    | none => rw [hg] at hc; cases hc
    | some g => rw [hg] at hc; injection hc with hc; subst hc; have := h i g hg j hj; rwa [show 0 + i * 7 + j = i * 7 + j by omega] at this) (lenGt L) hs (by simpa [hl] using hle) hm
  rwa [List.length_map, hl] at this
theorem GtIn.put {L : List Gt} {o : Nat} {cur : Array Value} (h : GtIn L o cur) {i : Nat} {g g' : Gt} (hg : L[i]? = some g) : GtIn (L.set i g') o (splice cur (o + i * 7) (gtA g')) := fun k d hd j hj => by
  have hf := h.fit hg
  have hs : (gtA g').size = 7 := rfl
  rw [splice_get _ _ _ (by rw [hs]; omega), hs]
  by_cases e : k = i
  · subst e
    rw [List.getElem?_set_self (List.getElem?_eq_some_iff.1 hg).1] at hd
    injection hd with hd; subst hd
    rw [if_pos (by omega), show o + k * 7 + j - (o + k * 7) = j by omega]
    unfold gtA Gt.cells; simp
  · rw [List.getElem?_set_ne (fun e2 => e e2.symm)] at hd
    rw [if_neg]
    · exact h k d hd j hj
    · intro h1
      have : k < i ∨ i < k := by omega
      rcases this with h2 | h2
      · have := Nat.mul_le_mul_right 7 (show k + 1 ≤ i by omega); rw [Nat.succ_mul] at this; omega
      · have := Nat.mul_le_mul_right 7 (show i + 1 ≤ k by omega); rw [Nat.succ_mul] at this; omega
theorem Kn.fresh {w0 w : World} {L : List (Nat × TypeId × Array Value)} (h : Kn [] w0 w L) {x : Nat × TypeId × Array Value} (hx : x ∈ L) : w0.heap.size ≤ x.1 := (h.low x hx).resolve_right (by simp)
end Go.Proofs.Ytpifngdmlmfnhaa
