import Derived.Test.YtnfdefeafhepkaaQH08
import Derived.Test.YtnfdefeafhepkaaQH13
import Derived.Test.YtnfdefeafhepkaaQH19
import Derived.Test.YtnfdefeafhepkaaQH30
/- The laws' comparer of numbers; calls that make two slices. No condition but lengths of at most 2^20. -/
namespace Go.Proofs.Ytnfdefeafhepkaa
set_option linter.unusedVariables false
set_option linter.unusedSimpArgs false
open Go.RowKit Mem Wk
attribute [local irreducible] Calls Wk.S Wk.C Wk.E Wk.X Wk.T Wk.Y Wk.Z Wk.anV Wk.orV Wk.andV Wk.shlV Wk.shrV Calm.wpLex CalmB.wpLex CalmE.wpLex bfsN
theorem Kn.congr {O : List Nat} {w0 w : World} {L L' : List (Nat × TypeId × Array Value)} (h : Kn O w0 w L) (e : L = L') : Kn O w0 w L' := e ▸ h
end Go.Proofs.Ytnfdefeafhepkaa
