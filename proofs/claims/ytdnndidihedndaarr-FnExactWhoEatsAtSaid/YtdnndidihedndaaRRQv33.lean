import Derived.Test.YtdnndidihedndaaRRQv24
import Derived.Test.YtdnndidihedndaaRRQv30
import Derived.Test.YtdnndidihedndaaRRQv32
/- Goats that are fed in turns: plain words; what stands when a callee has written two blocks and made one. No condition. -/
namespace Go.Proofs.YtdnndidihedndaaRR
set_option linter.unusedVariables false
set_option linter.unusedSimpArgs false
open Go.RowKit Mem Wk
attribute [local irreducible] Calls Wk.S Wk.C Wk.E Wk.X Wk.T Wk.Y Wk.andV Wk.shrV Calm.wpLex CalmB.wpLex CalmE.wpLex bfsN
def gtO : Gt := ⟨0, 0, 0, 0, 0, 0, 0⟩
structure Fd where
  p : Nat → Int
  L : List Gt
  E : List Int
/-- the bite of goat i -/
def fdStep (i : Nat) (s : Fd) : Fd :=
  ⟨bitP s.p (s.L.getD i gtO) ((s.L.getD i gtO).eats - s.E.getD i 0), s.L.set i (bitG s.p (s.L.getD i gtO) ((s.L.getD i gtO).eats - s.E.getD i 0)), s.E.set i (s.E.getD i 0 + bitM s.p (s.L.getD i gtO) ((s.L.getD i gtO).eats - s.E.getD i 0))⟩
structure FdOk (n t : Nat) (s : Fd) : Prop where
  lL : s.L.length = n
  lE : s.E.length = n
  on : ∀ (i : Nat) (g : Gt), s.L[i]? = some g → GtOn s.p g ∧ 0 ≤ g.eats ∧ g.eats ≤ 100
  le : ∀ (i : Nat) (g : Gt) (e : Int), s.L[i]? = some g → s.E[i]? = some e → e ≤ g.eats ∧ -(40000 * (t : Int)) ≤ e
theorem FdOk.step {n t i : Nat} {s : Fd} {g : Gt} {e : Int} {cs : Array Value} (h : FdOk n t s) (hp : Pv s.p cs) (hg : s.L[i]? = some g) (he : s.E[i]? = some e) :
    fdStep i s = ⟨bitP s.p g (g.eats - e), s.L.set i (bitG s.p g (g.eats - e)), s.E.set i (e + bitM s.p g (g.eats - e))⟩ ∧ FdOk n (t + 1) (fdStep i s) := by
  have e1 : s.L.getD i gtO = g := by simp [List.getD_eq_getElem?_getD, hg]
  have e2 : s.E.getD i 0 = e := by simp [List.getD_eq_getElem?_getD, he]
  have hS : fdStep i s = ⟨bitP s.p g (g.eats - e), s.L.set i (bitG s.p g (g.eats - e)), s.E.set i (e + bitM s.p g (g.eats - e))⟩ := by unfold fdStep; rw [e1, e2]
  obtain ⟨hon, h0, h100⟩ := h.on i g hg
  obtain ⟨l1, l2⟩ := h.le i g e hg he
  have hm := bitM_ge (h := g.eats - e) hp hon (by omega)
  have hm2 := bitM_le (p := s.p) (g := g) (h := g.eats - e) (by omega)
  have ht := bitG_tail s.p g (g.eats - e)
  have hlt := (List.getElem?_eq_some_iff.1 hg).1
  have hlt2 := (List.getElem?_eq_some_iff.1 he).1
  refine ⟨hS, ?_⟩
  rw [hS]
  refine ⟨by simp [h.lL], by simp [h.lE], fun k d hd => ?_, fun k d u hd hu => ?_⟩
  · simp only at hd ⊢
    by_cases ek : i = k
    · subst ek
      rw [List.getElem?_set_self hlt] at hd
      injection hd with hd; subst hd
      exact ⟨bit_on hon, by rw [ht.2.2.2.1]; exact h0, by rw [ht.2.2.2.1]; exact h100⟩
    · rw [List.getElem?_set_ne ek] at hd
      obtain ⟨q1, q2⟩ := h.on k d hd
      exact ⟨q1.bit, q2⟩
  · simp only at hd hu
    by_cases ek : i = k
    · subst ek
      rw [List.getElem?_set_self hlt] at hd
      rw [List.getElem?_set_self hlt2] at hu
      injection hd with hd; subst hd
      injection hu with hu; subst hu
      rw [ht.2.2.2.1]
      omega
    · rw [List.getElem?_set_ne ek] at hd hu
      have := h.le k d u hd hu
      omega
/-! numbers as cells -/
/-! the goats of a block, and what else it holds -/
structure GtW (L : List Gt) (o n : Nat) (cur cu : Array Value) : Prop where
  size : cu.size = cur.size
  ins : GtIn L o cu
  out : ∀ j, j < o ∨ o + n * 7 ≤ j → cu[j]? = cur[j]?
theorem GtW.set {L : List Gt} {o n i : Nat} {cur cu : Array Value} {g : Gt} (p : Nat → Int) (h : Int) (hW : GtW L o n cur cu) (hl : L.length = n) (hg : L[i]? = some g) : GtW (L.set i (bitG p g h)) o n cur (splice cu (o + i * 7) #[.int .i8 (bitG p g h).x, .int .i8 (bitG p g h).y]) := by
  have ht := bitG_tail p g h
  have hf := hW.ins.fit hg
  have hlt := (List.getElem?_eq_some_iff.1 hg).1
  have hm := Nat.mul_le_mul_right 7 (show i + 1 ≤ n by omega)
  rw [Nat.succ_mul] at hm
  refine ⟨by rw [splice_size _ _ _ (by simp; omega)]; exact hW.size, hW.ins.set hg ht.1 ht.2.1 ht.2.2.1 ht.2.2.2.1 ht.2.2.2.2, fun j hj => ?_⟩
  rw [splice_get _ _ _ (by simp; omega), if_neg (by simp; omega)]
  exact hW.out j hj
end Go.Proofs.YtdnndidihedndaaRR
namespace Go.Proofs.YtdnndidihedndaaRR.Wk
set_option linter.unusedVariables false
set_option linter.unusedSimpArgs false
open Go Go.RowKit Mem
variable {P : Program} {n : Nat} {O : List Nat} {w0 : World} {l : List (Nat × Value)} {N L : List (Nat × TypeId × Array Value)} {Q : Exit → Act → World → Prop} {ops : Array Oper} {o : Oper} {rest : List Oper} {k d : Nat} {v : Value} {x y : Operand} {Nok : List (Nat × TypeId × Array Value) → Prop} {pl : Nat → CalmE.Plan (List (Nat × TypeId × Array Value))}
end Go.Proofs.YtdnndidihedndaaRR.Wk
/- Goats that are fed in turns: the program's. No condition. -/
namespace Go.Proofs.YtdnndidihedndaaRR
set_option linter.unusedVariables false
set_option linter.unusedSimpArgs false
open Go.RowKit Mem Wk
attribute [local irreducible] Calls Wk.S Wk.C Wk.E Wk.X Wk.T Wk.Y Wk.andV Wk.shrV Calm.wpLex CalmB.wpLex CalmE.wpLex bfsN
theorem uSlI64 : Try.prog.underlying 44 = some (.slice 2) := by kernel_rfl
theorem iI64 : (Try.prog.info? 2).map (fun i => (i.zero, i.size, i.bytes)) = some (some (.int .i64 0), 1, 8) := by kernel_rfl
end Go.Proofs.YtdnndidihedndaaRR
/- Goats that are fed bite by bite: the reference's. No condition. -/
namespace Go.Proofs.YtdnndidihedndaaRR
set_option linter.unusedVariables false
set_option linter.unusedSimpArgs false
open Go.RowKit Mem Wk
attribute [local irreducible] Calls Wk.S Wk.C Wk.E Wk.X Wk.T Wk.Y Wk.andV Wk.shrV Calm.wpLex CalmB.wpLex CalmE.wpLex bfsN
theorem GtIn.of_ap {L : List Gt} {n cap : Nat} {cur : Array Value} (h : Ap 7 n cap cur (L.map Gt.cells).flatten) : GtIn L 0 cur := fun i g hg j hj => by
  rw [show 0 + i * 7 + j = i * 7 + j by omega]
  exact h.elem (lenGt L) (by simp [hg]) j hj
/-- goats in a block of their own -/
theorem GtIn.ap {L : List Gt} {n cap : Nat} {cur : Array Value} (h : GtIn L 0 cur) (hl : L.length = n) (hs : cur.size = cap * 7) (hle : n ≤ cap) (hm : cap ≤ maxLen) : Ap 7 n cap cur (L.map Gt.cells).flatten := by
  have := Pt.ap (sz := 7) (cap := cap) (cur := cur) (xs := L.map Gt.cells) (fun i c hi hc j hj => by
    rw [List.getElem?_map] at hc
    cases hg : L[i]? with
    | none => rw [hg] at hc; cases hc
    | some g => rw [hg] at hc; injection hc with hc; subst hc; have := h i g hg j hj; rwa [show 0 + i * 7 + j = i * 7 + j by omega] at this) (lenGt L) hs (by simpa [hl] using hle) hm
  rwa [List.length_map, hl] at this
theorem GtIn.put {L : List Gt} {o : Nat} {cur : Array Value} (h : GtIn L o cur) {i : Nat} {g g' : Gt} (hg : L[i]? = some g) : GtIn (L.set i g') o (splice cur (o + i * 7) (gtA g')) := fun k d hd j hj => by
  have hf := h.fit hg
  have hs : (gtA g').size = 7 := rfl
  rw [splice_get _ _ _ (by rw [hs]; omega), hs]
  by_cases e : k = i
  · subst e
    rw [List.getElem?_set_self (List.getElem?_eq_some_iff.1 hg).1] at hd
    injection hd with hd; subst hd
    rw [if_pos (by omega), show o + k * 7 + j - (o + k * 7) = j by omega]
    unfold gtA Gt.cells; simp
  · rw [List.getElem?_set_ne (fun e2 => e e2.symm)] at hd
    rw [if_neg]
    · exact h k d hd j hj
    · intro h1
      have : k < i ∨ i < k := by omega
      rcases this with h2 | h2
      · have := Nat.mul_le_mul_right 7 (show k + 1 ≤ i by omega); rw [Nat.succ_mul] at this; omega
      · have := Nat.mul_le_mul_right 7 (show i + 1 ≤ k by omega); rw [Nat.succ_mul] at this; omega
theorem Kn.fresh {w0 w : World} {L : List (Nat × TypeId × Array Value)} (h : Kn [] w0 w L) {x : Nat × TypeId × Array Value} (hx : x ∈ L) : w0.heap.size ≤ x.1 := (h.low x hx).resolve_right (by simp)
end Go.Proofs.YtdnndidihedndaaRR
/- FeedByBites: both functions. No condition. -/
namespace Go.Proofs.YtdnndidihedndaaRR
set_option linter.unusedVariables false
set_option linter.unusedSimpArgs false
open Go.RowKit Mem Wk
attribute [local irreducible] Calls Wk.S Wk.C Wk.E Wk.X Wk.T Wk.Y Wk.andV Wk.shrV Calm.wpLex CalmB.wpLex CalmE.wpLex bfsN
theorem slI0 (w : World) : (Instr.buildSlice 44 0 #[]).run Try.prog w = .ok (.slice (some ⟨w.heap.size, 0, none⟩) 0 0) (w.alloc (.cells #[] 2 (0, 0))) := by kernel_rfl
theorem slI1 (a : Int) (w : World) : (Instr.buildSlice 44 1 #[(0, .int .i64 a)]).run Try.prog w = .ok (.slice (some ⟨w.heap.size, 0, none⟩) 1 1) (w.alloc (.cells #[.int .i64 a] 2 (0, 0))) := by kernel_rfl
/-- a pasture, goats and numbers in new blocks, and a code -/
def NewF (c : Array Value) (xg : List Value) (xi : List Value) (code : Int) (w : World) (e : Ending) (w' : World) : Prop := ∃ gl ng capg cu ge ni capi ci, e = .returned (.tuple #[.agg c, .slice (some ⟨gl, 0, none⟩) ng capg, .slice (some ⟨ge, 0, none⟩) ni capi, .int .i64 code]) ∧ Ap 7 ng capg cu xg ∧ Ap 1 ni capi ci xi ∧ Below w.heap.size w w' ∧ w.heap.size ≤ gl ∧ w.heap.size ≤ ge ∧ gl ≠ ge ∧ w'.heap[gl]? = some (.cells cu 103 (0, 0)) ∧ w'.heap[ge]? = some (.cells ci 2 (0, 0))
theorem NewF.of {w0 w : World} {L : List (Nat × TypeId × Array Value)} {c : Array Value} {xg xi : List Value} {code : Int} {gl ng capg ge ni capi i j : Nat} {cu ci : Array Value} (hA : Ap 7 ng capg cu xg) (hB : Ap 1 ni capi ci xi) (hL : Kn [] w0 w L) (hi : L[i]? = some (gl, 103, cu)) (hj : L[j]? = some (ge, 2, ci)) (hij : i ≠ j) : NewF c xg xi code w0 (.returned (.tuple #[.agg c, .slice (some ⟨gl, 0, none⟩) ng capg, .slice (some ⟨ge, 0, none⟩) ni capi, .int .i64 code])) w :=
  ⟨gl, ng, capg, cu, ge, ni, capi, ci, rfl, hA, hB, hL.toBelow, Kn.fresh hL (List.mem_of_getElem? hi), Kn.fresh hL (List.mem_of_getElem? hj), Kn.ne2 hL hi hj hij, hL.at_ (List.mem_of_getElem? hi), hL.at_ (List.mem_of_getElem? hj)⟩
section
variable (p : Nat → Int) (cs c' : Array Value) (L : List Gt) (g n cap : Nat) (cur : Array Value) (w : World)
end
end Go.Proofs.YtdnndidihedndaaRR
/- Marks in what a callee has made. No condition but a length of at most 2^20. -/
namespace Go.Proofs.YtdnndidihedndaaRR
set_option linter.unusedVariables false
set_option linter.unusedSimpArgs false
open Go.RowKit Mem Wk
attribute [local irreducible] Calls Wk.S Wk.C Wk.E Wk.X Wk.T Wk.Y Wk.andV Wk.shrV Calm.wpLex CalmB.wpLex
/-- the first m cells bear the marks -/
def Mkd (f : Nat → Value) (c : Array Value) (m : Nat) : Prop := ∀ j, j < m → c[j]? = some (f j)
theorem Mkd.put {f : Nat → Value} {c : Array Value} {m i : Nat} {v : Value} (h : Mkd f c m) (hs : m < c.size) (hi : i = m) (hv : v = f m) : Mkd f (c.setIfInBounds i v) (m + 1) := fun j hj => by
  subst hi; subst hv
  by_cases e : j = i
  · subst e; simp [hs]
  · rw [Array.getElem?_setIfInBounds_ne (by omega)]; exact h j (by omega)
end Go.Proofs.YtdnndidihedndaaRR
