/- A walk that is begun anew behind a call: what the callee has made is old memory then. No condition. -/
import Derived.Test.YtfefkkpcjcnmcaaU
import Derived.Test.YtfefkkpcjcnmcaaCt
import Derived.Test.YtfefkkpcjcnmcaaFm0
namespace Go.Proofs.Ytfefkkpcjcnmcaa
set_option linter.unusedVariables false
set_option linter.unusedSimpArgs false
open Go.RowKit Mem Wk
namespace Wk
variable {P : Program} {n : Nat} {w0 w1 : World} {l : List (Nat × Value)} {L K : List (Nat × TypeId × Array Value)} {Q : Exit → Act → World → Prop} {ops : Array Oper} {o : Oper} {rest : List Oper} {d : Nat} {x : Operand} {v : Value} {O : List Nat}
/-- old blocks that are known -/
def Kw (w : World) (K : List (Nat × TypeId × Array Value)) : Prop := ∀ b ∈ K, w.heap[b.1]? = some (.cells b.2.2 b.2.1 (0, 0))
theorem Kw.nil (w : World) : Kw w [] := fun b hb => by cases hb
theorem Kw.base (hK : Kw w0 K) (hL : Kn [] w0 w1 L) : Kw w1 (L ++ K) := fun b hb => by
  rcases List.mem_append.1 hb with h | h
  · exact hL.has b h
  · exact Kn.old hL (hK b h) (by simp)
theorem Kw.at_ (hK : Kw w0 K) {g : Nat} {T : TypeId} {cs : Array Value} (hm : (g, T, cs) ∈ K) {w : World} (hL : Kn [] w0 w L) : w.heap[g]? = some (.cells cs T (0, 0)) := Kn.old hL (hK _ hm) (by simp)
theorem r_ldk (hK : Kw w0 K) {ty g off : Nat} {T : TypeId} {cs : Array Value} (ho : o.op = .load ty x) (hx : ev l x = some (.pointer (some ⟨g, off, none⟩))) (hm : (g, T, cs) ∈ K) (hv : Ldv P ty cs off v) : Rn P n [] w0 l L o v :=
  r_ldo ho hx (hK _ hm) (by simp) hv
theorem s_callE {f : FuncId} {fn : Func} {xs : Array Operand} {ts : Array TypeId} {vs : List Value} {Pf : Value → World → Prop} (hf : P.funcs[f]? = some fn) (hname : (fn.name == "runtime.NumGoroutine") = false) (hb : fn.body.isSome = true) (hg : o.guard = none) (hd : o.dst = some d) (hn : Nat.blt d n = true)
    (hop : o.op = .call { callee := .value (.func f), args := xs, argTypes := ts }) (hargs : evs l xs.toList = some vs)
    (hc : ∀ w, Kn [] w0 w L → Calls P f vs.toArray w fun e w' => ∃ u, e = .returned u ∧ Pf u w' ∧ Below w.heap.size w w') (h : ∀ u w1, Kn [] w0 w1 L → Pf u w1 → S P ops Q n [] w1 rest ((d, u) :: l) []) : S P ops Q n [] w0 (o :: rest) l L := fun a w hF hL =>
  wpList_plain hg fun K hK => by
    unfold Oper.wp
    rw [run_callc (caps := []) hf hname hb hop rfl (hF.evals hargs) w]
    refine ((List.append_nil vs).symm ▸ hc w hL).mono fun e w' ⟨u, he, hP, hb'⟩ => ?_
    subst he
    rw [hd]
    exact hK _ _ (h u w' (Own.ext hL hb') hP _ _ (hF.put hn _) (Own.start w'))
end Wk
end Go.Proofs.Ytfefkkpcjcnmcaa
