import Derived.Test.YtnafnhpajkhgkaaQY17
import Derived.Test.YtnafnhpajkhgkaaQY26
import Derived.Test.YtnafnhpajkhgkaaQY35
import Derived.Test.YtnafnhpajkhgkaaQY36
/- What law texts share where a function returns a slice and a code. No condition. -/
namespace Go.Proofs.Ytnafnhpajkhgkaa
set_option linter.unusedVariables false
set_option linter.unusedSimpArgs false
open Go.RowKit Mem Wk
namespace Wk
open Calm
variable {P : Program} {n : Nat} {O : List Nat} {w0 : World} {l : List (Nat × Value)} {N L : List (Nat × TypeId × Array Value)} {Q : Exit → Act → World → Prop} {ops : Array Oper} {o : Oper} {rest : List Oper} {k d : Nat} {pl : Nat → CalmB.Plan} {v : Value}
theorem Ap.fit {sz m cap : Nat} {cur : Array Value} {xs : List Value} (h : Ap sz m cap cur xs) : m * sz ≤ cur.size := by rw [h.size]; exact Nat.mul_le_mul_right _ h.le
end Wk
theorem sl_nil (w : World) (sz : Nat) : Sl w sz (.slice none 0 0) [] := ⟨none, 0, rfl, by simp, by unfold maxLen; omega, fun i c h => by simp at h⟩
end Go.Proofs.Ytnafnhpajkhgkaa
