import Derived.Test.YtnfdefeafhepkaaQI10
import Derived.Test.YtnfdefeafhepkaaQI12
import Derived.Test.YtnfdefeafhepkaaQI20
import Derived.Test.YtnfdefeafhepkaaQI28
set_option linter.unusedVariables false
set_option linter.unusedSimpArgs false
namespace Go.Proofs.Ytnfdefeafhepkaa.Wk
open Go Go.RowKit Mem
variable {P : Program} {n : Nat} {O : List Nat} {w0 : World} {l : List (Nat × Value)} {L : List (Nat × TypeId × Array Value)} {Q : Exit → Act → World → Prop} {ops : Array Oper} {o : Oper} {rest : List Oper} {d : Nat} {x y : Operand}
end Go.Proofs.Ytnfdefeafhepkaa.Wk
namespace Go.Proofs.Ytnfdefeafhepkaa
open Go.RowKit Mem Wk
attribute [local irreducible] Calls Wk.S Wk.C Wk.E Wk.X Wk.T Wk.Y Wk.anV Wk.orV Wk.andV Wk.shlV Wk.shrV Calm.wpLex CalmB.wpLex bfsN
structure SSs (w : World) (S : List (List Sp)) (V : List Value) (cur : Array Value) : Prop where
  len : V.length = S.length
  at_ : ∀ (j : Nat) v, V[j]? = some v → cur[0 + j * 1]? = some v
  sl : ∀ (j : Nat) s v, S[j]? = some s → V[j]? = some v → Sl w 2 v (s.map Sp.cells)
theorem SSs.get {w : World} {S : List (List Sp)} {V : List Value} {cur : Array Value} (h : SSs w S V cur) {j : Nat} {s : List Sp} (hs : S[j]? = some s) : ∃ A cap, cur[0 + j * 1]? = some (.slice A s.length cap) ∧ SlA [] w 2 A (s.map Sp.cells) := by
  have hj := (List.getElem?_eq_some_iff.1 hs).1
  have hv : V[j]? = some (V[j]'(by rw [h.len]; exact hj)) := List.getElem?_eq_getElem _
  obtain ⟨A, cap, e, _, _, hS⟩ := (h.sl j s _ hs hv).open
  rw [List.length_map] at e
  rw [e] at hv
  exact ⟨A, cap, h.at_ j _ hv, hS⟩
theorem SSs.below {w w' : World} {S : List (List Sp)} {V : List Value} {cur : Array Value} (h : SSs w S V cur) (hb : Below w.heap.size w w') : SSs w' S V cur := ⟨h.len, h.at_, fun j s v hs hv => (h.sl j s v hs hv).below hb⟩
end Go.Proofs.Ytnfdefeafhepkaa
namespace Go.Proofs.Ytnfdefeafhepkaa.Wk
open Go Go.RowKit Mem Calm
variable {P : Program} {n : Nat} {O : List Nat} {w0 : World} {l : List (Nat × Value)} {N L : List (Nat × TypeId × Array Value)} {Q : Exit → Act → World → Prop} {ops : Array Oper} {o : Oper} {rest : List Oper} {kk d : Nat} {v : Value} {x y : Operand} {Nok : List (Nat × TypeId × Array Value) → Prop} {pl : Nat → CalmE.Plan (List (Nat × TypeId × Array Value))}
theorem SlA.take {O : List Nat} {w : World} {sz : Nat} {A : Option Addr} {xs : List (List Value)} (h : SlA O w sz A xs) (k : Nat) : SlA O w sz A (xs.take k) := fun i c hc => by
  rw [List.getElem?_take] at hc
  split at hc
  · exact h i c hc
  · cases hc
theorem SlA.drop {O : List Nat} {w : World} {sz b off : Nat} {xs : List (List Value)} (h : SlA O w sz (some ⟨b, off, none⟩) xs) (k : Nat) : SlA O w sz (some ⟨b, off + k * sz, none⟩) (xs.drop k) := fun i c hc => by
  rw [List.getElem?_drop] at hc
  obtain ⟨h1, b', off', e, h2, h3⟩ := h (k + i) c hc
  injection e with e; injection e with e1 e2; subst e1; subst e2
  refine ⟨h1, b, off + k * sz, rfl, h2, fun j u hu => ?_⟩
  rw [show off + k * sz + i * sz + j = off + (k + i) * sz + j by rw [Nat.add_mul]; omega]
  exact h3 j u hu
theorem SlA.nil {O : List Nat} {w : World} {sz : Nat} {A : Option Addr} : SlA O w sz A [] := fun i c hc => by simp at hc
end Go.Proofs.Ytnfdefeafhepkaa.Wk
