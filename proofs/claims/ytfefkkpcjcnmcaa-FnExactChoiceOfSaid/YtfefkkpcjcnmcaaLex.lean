/- More laws of the walk: a guarded operation that runs; the end of a drawn region; contracts that leave the heap below as it was. -/
import Derived.Test.YtfefkkpcjcnmcaaFm0
namespace Go.Proofs.Ytfefkkpcjcnmcaa
set_option linter.unusedVariables false
open Go.RowKit Mem
def Halt (p : Prop) : Prop := p
theorem halt {p : Prop} (h : Halt p) : p := h
theorem halt_on {p : Prop} (h : p) : Halt p := h
theorem wpl_ungate {P : Program} {ops : Array Oper} {Q : Exit → Act → World → Prop} {a : Act} {w : World} {rest : List Oper} {d : Option Tmp} {op : Op} {t : TypeId} {ps : String} {af : Array Edge} {g : Nat × Bool} (hw : Region.wanted ⟨d, op, t, ps, af, some g⟩ (yielded ops a.tmps) = true)
    (h : wpList P ops Q (⟨d, op, t, ps, af, none⟩ :: rest) a w) : wpList P ops Q (⟨d, op, t, ps, af, some g⟩ :: rest) a w := by
  unfold wpList at h ⊢
  rw [if_pos (by rfl)] at h
  rw [if_pos hw]
  exact h
theorem to_below {P : Program} {f : FuncId} {args : Array Value} {w : World} {v v' : Value} (h : Calls P f args w fun e w' => e = .returned v ∧ w = w') (hv : v = v') : Calls P f args w fun e w' => e = .returned v' ∧ Below w.heap.size w w' :=
  h.mono fun e w' ⟨h1, h2⟩ => by subst h2; subst hv; exact ⟨h1, Below.refl _ _⟩
theorem to_same {P : Program} {f : FuncId} {args : Array Value} {w : World} {v v' : Value} (h : Calls P f args w fun e w' => e = .returned v ∧ Below w.heap.size w w') (hv : v = v') : Calls P f args w fun e w' => e = .returned v' ∧ Below w.heap.size w w' := hv ▸ h
/-- What was tracked and not written: all below is as it was. -/
theorem Mem.Own.toBelow1 {B : Nat} {g : Nat} {T : TypeId} {cs : Array Value} {w0 w : World} {L : List (Nat × TypeId × Array Value)} (h : Own B [g] w0 w L) (h0 : w0.heap[g]? = some (.cells cs T (0, 0))) (h1 : w.heap[g]? = some (.cells cs T (0, 0))) : Below B w0 w :=
  ⟨h.os, h.tape, h.output, h.size, fun k hk => by
    by_cases e : k = g
    · subst e; rw [h0, h1]
    · exact h.others k hk e⟩
theorem lex_nil {P : Program} {ops : Array Oper} {B : Nat} {w : World} {pl : Nat → Calm.Plan} {K2 : Act → Calm.Made → Prop} {k : Nat} {a : Act} {E : Calm.Made} (h : K2 a E) : Calm.wpLex P ops B w pl K2 [] k a E := h
end Go.Proofs.Ytfefkkpcjcnmcaa
