import Derived.Test.YtpifngdmlmfnhaaQA39
/- Goats: the reference's validity of a list. No condition. -/
namespace Go.Proofs.Ytpifngdmlmfnhaa
set_option linter.unusedVariables false
set_option linter.unusedSimpArgs false
open Go.RowKit Mem
attribute [local irreducible] Calm.wpLex
theorem l02Goat_any (p : Nat → Int) (cs : Array Value) (T : TypeId) (gp b off : Nat) (g : Gt) (w : World) (hp : Pv p cs) (hw : w.heap[gp]? = some (.cells cs T (0, 0))) (ha : p 0 ≤ 10) (hb : p 1 ≤ 10) (hg : g.ok) (hc : CellsAt w b off g.cells) :
    Calls Try.prog 197 #[.pointer (some ⟨gp, 0, none⟩), .pointer (some ⟨b, off, none⟩)] w fun e w' => e = .returned (.bool (goatOk p g)) ∧ Below w.heap.size w w' :=
  l02Goat_raw p cs T gp b off g.x g.y g.u g.v g.rope g.eats g.likes w hp hw ha hb hg hc
end Go.Proofs.Ytpifngdmlmfnhaa
