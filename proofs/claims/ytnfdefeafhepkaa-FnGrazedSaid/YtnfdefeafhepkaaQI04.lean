import Derived.Test.YtnfdefeafhepkaaQI03
set_option linter.unusedVariables false
set_option linter.unusedSimpArgs false
namespace Go.Proofs.Ytnfdefeafhepkaa
open Go.RowKit Mem

theorem flat_get {sz : Nat} (l : List (List Value)) (hl : ∀ c ∈ l, c.length = sz) (i : Nat) (c : List Value) (hc : l[i]? = some c) (j : Nat) (hj : j < sz) : l.flatten[i * sz + j]? = c[j]? := by
  induction l generalizing i with
  | nil => simp at hc
  | cons d l ih =>
    have hd := hl d (by simp)
    rw [List.flatten_cons]
    match i with
    | 0 => simp at hc; subst hc; rw [List.getElem?_append_left (by omega)]; simp
    | i + 1 =>
      rw [Nat.succ_mul, List.getElem?_append_right (by omega)]
      rw [show i * sz + sz + j - d.length = i * sz + j by omega]
      exact ih (fun c hc => hl c (List.mem_cons_of_mem _ hc)) i (by simpa using hc)
theorem flat_len {sz : Nat} (l : List (List Value)) (hl : ∀ c ∈ l, c.length = sz) : l.flatten.length = l.length * sz := by
  induction l with
  | nil => simp
  | cons d l ih => rw [List.flatten_cons, List.length_append, ih fun c hc => hl c (List.mem_cons_of_mem _ hc), hl d (by simp), List.length_cons, Nat.succ_mul]; omega
theorem Sl.of_block {w : World} {sz g n : Nat} {T : TypeId} {cs : Array Value} {l : List (List Value)} (hl : ∀ c ∈ l, c.length = sz) (hn : l.length = n) (hm : n ≤ maxLen) (hg : w.heap[g]? = some (.cells cs T (0, 0))) (hcs : ∀ j, j < l.length * sz → cs[j]? = l.flatten[j]?) : Sl w sz (.slice (some ⟨g, 0, none⟩) n n) l := by
  subst hn
  refine ⟨_, _, rfl, Nat.le_refl _, hm, fun i c hc => ⟨hl c (List.mem_of_getElem? hc), g, 0, rfl, fun j u hu => ?_⟩⟩
  have hj : j < sz := by rw [← hl c (List.mem_of_getElem? hc)]; exact (List.getElem?_eq_some_iff.1 hu).1
  have hi : i < l.length := (List.getElem?_eq_some_iff.1 hc).1
  have hb : i * sz + j < l.length * sz := by
    have := Nat.mul_le_mul_right sz hi
    rw [Nat.succ_mul] at this
    omega
  rw [cell_of_row w g _ cs T (0, 0) hg, Nat.zero_add, hcs _ hb, flat_get l hl i c hc j hj]
  exact hu
end Go.Proofs.Ytnfdefeafhepkaa
namespace Go.Proofs.Ytnfdefeafhepkaa
open Go.RowKit Mem
def Halt (p : Prop) : Prop := p
theorem halt {p : Prop} (h : Halt p) : p := h
theorem wpl_ungate {P : Program} {ops : Array Oper} {Q : Exit → Act → World → Prop} {a : Act} {w : World} {rest : List Oper} {d : Option Tmp} {op : Op} {t : TypeId} {ps : String} {af : Array Edge} {g : Nat × Bool} (hw : Region.wanted ⟨d, op, t, ps, af, some g⟩ (yielded ops a.tmps) = true)
    (h : wpList P ops Q (⟨d, op, t, ps, af, none⟩ :: rest) a w) : wpList P ops Q (⟨d, op, t, ps, af, some g⟩ :: rest) a w := by
  unfold wpList at h ⊢
  rw [if_pos (by rfl)] at h
  rw [if_pos hw]
  exact h
theorem to_below {P : Program} {f : FuncId} {args : Array Value} {w : World} {v v' : Value} (h : Calls P f args w fun e w' => e = .returned v ∧ w = w') (hv : v = v') : Calls P f args w fun e w' => e = .returned v' ∧ Below w.heap.size w w' :=
  h.mono fun e w' ⟨h1, h2⟩ => by subst h2; subst hv; exact ⟨h1, Below.refl _ _⟩
theorem Mem.Own.toBelow1 {B : Nat} {g : Nat} {T : TypeId} {cs : Array Value} {w0 w : World} {L : List (Nat × TypeId × Array Value)} (h : Own B [g] w0 w L) (h0 : w0.heap[g]? = some (.cells cs T (0, 0))) (h1 : w.heap[g]? = some (.cells cs T (0, 0))) : Below B w0 w :=
  ⟨h.os, h.tape, h.output, h.size, fun k hk => by
    by_cases e : k = g
    · subst e; rw [h0, h1]
    · exact h.others k hk e⟩
theorem lex_nil {P : Program} {ops : Array Oper} {B : Nat} {w : World} {pl : Nat → Calm.Plan} {K2 : Act → Calm.Made → Prop} {k : Nat} {a : Act} {E : Calm.Made} (h : K2 a E) : Calm.wpLex P ops B w pl K2 [] k a E := h
end Go.Proofs.Ytnfdefeafhepkaa
