import Derived.Test.YtpifngdmlmfnhaaQB15
import Derived.Test.YtpifngdmlmfnhaaQB24
import Derived.Test.YtpifngdmlmfnhaaQB33
/- What law texts share where a function returns a slice and a code. No condition. -/
namespace Go.Proofs.Ytpifngdmlmfnhaa
set_option linter.unusedVariables false
set_option linter.unusedSimpArgs false
open Go.RowKit Mem Wk
namespace Wk
open Calm
variable {P : Program} {n : Nat} {O : List Nat} {w0 : World} {l : List (Nat × Value)} {N L : List (Nat × TypeId × Array Value)} {Q : Exit → Act → World → Prop} {ops : Array Oper} {o : Oper} {rest : List Oper} {k d : Nat} {pl : Nat → CalmB.Plan} {v : Value}
theorem Ap.fit {sz m cap : Nat} {cur : Array Value} {xs : List Value} (h : Ap sz m cap cur xs) : m * sz ≤ cur.size := by rw [h.size]; exact Nat.mul_le_mul_right _ h.le
end Wk
end Go.Proofs.Ytpifngdmlmfnhaa
