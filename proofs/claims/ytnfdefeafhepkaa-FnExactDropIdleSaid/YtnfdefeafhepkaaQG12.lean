import Derived.Test.YtnfdefeafhepkaaQG11
/- Equality of spots; lists of spots that hold one. No condition. -/
namespace Go.Proofs.Ytnfdefeafhepkaa
set_option linter.unusedVariables false
set_option linter.unusedSimpArgs false
open Go.RowKit Mem Wk
attribute [local irreducible] Calls Wk.S Wk.C Wk.E Wk.X Wk.T Calm.wpLex
theorem u_i8 : Try.prog.underlying 22 = some (.int .i8) := by kernel_rfl
theorem part_i8 (cs : Array Value) (off : Nat) (v : Value) (h : cs[off]? = some v) (w : World) : (part 22 cs off).run Try.prog w = .ok v w := by
  simp [part, isAgg, run_underlying u_i8, h]
theorem part_0 (u v : Value) (w : World) : (part 22 #[u, v] 0).run Try.prog w = .ok u w := part_i8 _ _ _ rfl w
theorem part_1 (u v : Value) (w : World) : (part 22 #[u, v] 1).run Try.prog w = .ok v w := part_i8 _ _ _ rfl w
theorem run_eqSpot (a b c d : Int) (w : World) : (Op.equal 66 (.agg #[.int .i8 a, .int .i8 b]) (.agg #[.int .i8 c, .int .i8 d])).run Try.prog w = .ok (decide (a = c) && decide (b = d)) w := by
  have e0 : ∀ x y : Int, (x == y) = decide (x = y) := fun x y => rfl
  unfold Op.equal Op.maxDepth
  rw [show (10000 : Nat) = 9998 + 1 + 1 by rfl]
  unfold Op.equalIn
  simp only [run_underlying Try.underlying66, Sem.run_bind, Result.andThen_ok]
  by_cases h1 : a = c <;> by_cases h2 : b = d <;> simp [part_0, part_1, run_equalIn_int w _ _ _ _ _ _ u_i8, h1, h2]
namespace Wk
variable {n : Nat} {O : List Nat} {w0 : World} {l : List (Nat × Value)} {L : List (Nat × TypeId × Array Value)} {o : Oper} {x y : Operand}
end Wk
end Go.Proofs.Ytnfdefeafhepkaa
