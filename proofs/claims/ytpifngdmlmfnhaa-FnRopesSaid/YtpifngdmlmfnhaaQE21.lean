import Derived.Test.YtpifngdmlmfnhaaQE11
import Derived.Test.YtpifngdmlmfnhaaQE13
import Derived.Test.YtpifngdmlmfnhaaQE17
import Derived.Test.YtpifngdmlmfnhaaQE20
/- slices.Concat of lists of cells; append of nothing. No condition but a length of at most 2^20. -/
namespace Go.Proofs.Ytpifngdmlmfnhaa.Wk
set_option linter.unusedVariables false
set_option linter.unusedSimpArgs false
open Go Go.RowKit Mem
variable {P : Program} {n : Nat} {O : List Nat} {w0 : World} {l : List (Nat × Value)} {L : List (Nat × TypeId × Array Value)} {Q : Exit → Act → World → Prop} {ops : Array Oper} {o : Oper} {rest : List Oper} {d : Nat} {x y : Operand}
end Go.Proofs.Ytpifngdmlmfnhaa.Wk
namespace Go.Proofs.Ytpifngdmlmfnhaa
set_option linter.unusedVariables false
set_option linter.unusedSimpArgs false
open Go.RowKit Mem Wk
attribute [local irreducible] Calls Wk.S Wk.C Wk.E Wk.X Wk.T Wk.Y Wk.anV Wk.orV Wk.andV Wk.shlV Wk.shrV Calm.wpLex CalmB.wpLex
/-- values in the cells of a slice -/
theorem apV {V : List Value} {n cap : Nat} {cur : Array Value} (h : Ap 1 n cap cur V) : n = V.length ∧ ∀ (j : Nat) v, V[j]? = some v → cur[0 + j * 1]? = some v := by
  have h1 := h.len
  rw [Nat.mul_one] at h1
  refine ⟨h1.symm, fun j v hv => ?_⟩
  have h2 := h.take
  rw [Nat.mul_one] at h2
  have hj := (List.getElem?_eq_some_iff.1 hv).1
  rw [← h2, List.getElem?_take, if_pos (by omega), Array.getElem?_toList] at hv
  rw [Nat.zero_add, Nat.mul_one]; exact hv
/-- lists of cells whose slices lie in a block -/
structure SSs (w : World) (S : List (List Sp)) (V : List Value) (cur : Array Value) : Prop where
  len : V.length = S.length
  at_ : ∀ (j : Nat) v, V[j]? = some v → cur[0 + j * 1]? = some v
  sl : ∀ (j : Nat) s v, S[j]? = some s → V[j]? = some v → Sl w 2 v (s.map Sp.cells)
theorem SSs.get {w : World} {S : List (List Sp)} {V : List Value} {cur : Array Value} (h : SSs w S V cur) {j : Nat} {s : List Sp} (hs : S[j]? = some s) : ∃ A cap, cur[0 + j * 1]? = some (.slice A s.length cap) ∧ SlA [] w 2 A (s.map Sp.cells) := by
  have hj := (List.getElem?_eq_some_iff.1 hs).1
  have hv : V[j]? = some (V[j]'(by rw [h.len]; exact hj)) := List.getElem?_eq_getElem _
  obtain ⟨A, cap, e, _, _, hS⟩ := (h.sl j s _ hs hv).open
  rw [List.length_map] at e
  rw [e] at hv
  exact ⟨A, cap, h.at_ j _ hv, hS⟩
theorem SSs.below {w w' : World} {S : List (List Sp)} {V : List Value} {cur : Array Value} (h : SSs w S V cur) (hb : Below w.heap.size w w') : SSs w' S V cur := ⟨h.len, h.at_, fun j s v hs hv => (h.sl j s v hs hv).below hb⟩
theorem SSs.items {w : World} {S : List (List Sp)} {items : List (Nat × Nat × Array Value)} {cap : Nat} {cur : Array Value} (hA : Ap 1 S.length cap cur (itV S items)) (hI : ItOk S items) (hin : ∀ i ∈ items, w.heap[i.1]? = some (.cells i.2.2 88 (0, 0))) : SSs w S (itV S items) cur := by
  refine ⟨itV_len hI.len, (apV hA).2, fun j s v hs hv => ?_⟩
  have hj := (List.getElem?_eq_some_iff.1 hs).1
  have hi : items[j]? = some (items[j]'(by rw [hI.len]; exact hj)) := List.getElem?_eq_getElem _
  unfold itV at hv
  rw [List.getElem?_zipWith, hs, hi] at hv
  injection hv with hv
  subst hv
  exact (hI.ap j s _ hs hi).toSl (lenSp s) (by omega) (hin _ (List.mem_of_getElem? hi))
theorem flS_append (a b : List Sp) : flS (a ++ b) = flS a ++ flS b := by simp [flS]
end Go.Proofs.Ytpifngdmlmfnhaa
/- A drawn region that makes a slice and appends foreign slices to it. Plain theorems; no condition but a length of at most 2^20. -/
namespace Go.Proofs.Ytpifngdmlmfnhaa.Wk
set_option linter.unusedVariables false
set_option linter.unusedSimpArgs false
open Go Go.RowKit Mem Calm
variable {P : Program} {n : Nat} {O : List Nat} {w0 : World} {l : List (Nat × Value)} {N L : List (Nat × TypeId × Array Value)} {Q : Exit → Act → World → Prop} {ops : Array Oper} {o : Oper} {rest : List Oper} {kk d : Nat} {v : Value} {x y : Operand} {Nok : List (Nat × TypeId × Array Value) → Prop} {pl : Nat → CalmE.Plan (List (Nat × TypeId × Array Value))}
theorem c_drawZe {id : Nat} {r : List Oper} (bs : List Bool) (Nok : List (Nat × TypeId × Array Value) → Prop) (pl : List (CalmE.Plan (List (Nat × TypeId × Array Value)))) (hm : P.follows .mixedOrders = true) (hB : Region.lexB .any r.toArray = true) (hst : CalmE.effB .any r.toArray bs = true) (hag : CalmE.Agree pl bs) (hok : Nok [])
    (h : Z P r.toArray Q n O w0 Nok (fun i => pl.getD i (.inl undef)) r 0 l [] L) : C P Q n O w0 (.region id r.toArray true) l L := c_drawZ bs Nok [] L pl hm hB hst hag hok (List.Perm.refl _) h
theorem z_bsl {t : TypeId} {len : Nat} {T : TypeId} {cs : Array Value} {parts : Array (Nat × Operand)} {ps : List (Nat × Value)} (ho : o.op = .buildSlice t len parts) (hpp : evp l parts.toList = some ps) (hr : ∀ w, (Instr.buildSlice t len ps.toArray).run P w = .ok (.slice (some ⟨w.heap.size, 0, none⟩) len len) (w.alloc (.cells cs T (0, 0))))
    (hg : o.guard = none) (hd : o.dst = some d) (hn : Nat.blt d n = true) (hok : ∀ N, Nok N) (hp : pl kk = .inr (fun v N' => ∃ g : Nat, True ∧ v = .slice (some ⟨g, 0, none⟩) len len ∧ N' = [(g, T, cs)]))
    (h : ∀ g, Z P ops Q n O w0 Nok pl rest (kk + 1) ((d, .slice (some ⟨g, 0, none⟩) len len) :: l) [(g, T, cs)] L) : Z P ops Q n O w0 Nok pl (o :: rest) kk l [] L :=
  z_eff (fun _ : Nat => True) (fun g => .slice (some ⟨g, 0, none⟩) len len) (fun g => [(g, T, cs)]) hg (fun a w hF hw => by
    have e : parts.map (fun p => (p.1, a.eval p.2)) = ps.toArray := by rw [← hF.evp hpp]; apply Array.ext'; simp
    have e' : (parts.map fun x => match x with | (i, x) => (i, a.eval x)) = ps.toArray := e
    have hx : (execOp a.eval o).run P w = .ok (.value (.slice (some ⟨w.heap.size, 0, none⟩) len len)) (w.alloc (.cells cs T (0, 0))) := by simp [execOp, ho, e', hr]
    unfold CalmE.effAt
    rw [hx]
    exact ⟨w.heap.size, trivial, rfl, Own.new hw T cs⟩) ⟨0, trivial⟩ (fun _ _ => hok _) hp (fun g _ a hF => by rw [hd]; exact h g _ (hF.put hn _))
theorem SlA.take {O : List Nat} {w : World} {sz : Nat} {A : Option Addr} {xs : List (List Value)} (h : SlA O w sz A xs) (k : Nat) : SlA O w sz A (xs.take k) := fun i c hc => by
  rw [List.getElem?_take] at hc
  split at hc
  · exact h i c hc
  · cases hc
theorem SlA.drop {O : List Nat} {w : World} {sz b off : Nat} {xs : List (List Value)} (h : SlA O w sz (some ⟨b, off, none⟩) xs) (k : Nat) : SlA O w sz (some ⟨b, off + k * sz, none⟩) (xs.drop k) := fun i c hc => by
  rw [List.getElem?_drop] at hc
  obtain ⟨h1, b', off', e, h2, h3⟩ := h (k + i) c hc
  injection e with e; injection e with e1 e2; subst e1; subst e2
  refine ⟨h1, b, off + k * sz, rfl, h2, fun j u hu => ?_⟩
  rw [show off + k * sz + i * sz + j = off + (k + i) * sz + j by rw [Nat.add_mul]; omega]
  exact h3 j u hu
theorem SlA.nil {O : List Nat} {w : World} {sz : Nat} {A : Option Addr} : SlA O w sz A [] := fun i c hc => by simp at hc
end Go.Proofs.Ytpifngdmlmfnhaa.Wk
