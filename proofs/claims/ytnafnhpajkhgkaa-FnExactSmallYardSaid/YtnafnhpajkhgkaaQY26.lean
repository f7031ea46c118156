import Derived.JoinedOf
import Derived.Test.YtnafnhpajkhgkaaRows
import Derived.Test.YtnafnhpajkhgkaaQY12
import Derived.Test.YtnafnhpajkhgkaaQY25
/- What law texts share. No condition. -/
namespace Go.Proofs.Ytnafnhpajkhgkaa
set_option linter.unusedVariables false
set_option linter.unusedSimpArgs false
open Go.RowKit Mem Wk
attribute [local irreducible] Calls Wk.S Wk.C Wk.E Wk.X Wk.T Calm.wpLex
theorem run_neqB (a b : Bool) (w : World) : (binOp .neq 4 (.bool a) (.bool b)).run Try.prog w = .ok (.bool (!(a == b))) w := by
  cases a <;> cases b <;> kernel_rfl
theorem gd_neqB (x y : Operand) (a b : Bool) (w : World) : (eqGuard .neq 4 x y (.bool a) (.bool b)).run Try.prog w = .ok () w := by
  have h : (Program.eqGuardType Try.prog Try.prog.depth 4) = false := by kernel_rfl
  unfold eqGuard
  split <;> simp [h]
theorem r_neqB {n : Nat} {O : List Nat} {w0 : World} {l : List (Nat × Value)} {L : List (Nat × TypeId × Array Value)} {o : Oper} {x y : Operand} {t' : Nat} {a b : Bool} (ho : o.op = .binOp .neq 4 x y t') (hx : ev l x = some (.bool a)) (hy : ev l y = some (.bool b)) : Rn Try.prog n O w0 l L o (.bool (!(a == b))) := fun ac w hF hL => by
  simp [execOp, ho, hF.eval hx, hF.eval hy, gd_neqB, run_neqB]
/-! Closed facts of the seat's program: what hangs on its head line, which is long where a seat has many rows, is taken from the line's signs, once. -/
theorem head_signs {P : Program} {l : List Char} (h : P.initOrder = String.ofList l) : P.initOrder.toList = l := by rw [h]; simp
theorem strip_cut (r : List (List Char)) : stripLifts liftWords ("cut".toList :: r) = ([], "cut".toList :: r) := by kernel_rfl
theorem mayEnter_cut {P : Program} {l : List Char} (h : P.initOrder = String.ofList l) (hw : (behindMainWord (wordsSigns l)).head? = some "cut".toList) (h1 : P.laysLater = false) (h2 : P.bearsReflect = false) (h3 : P.doorFits [] = true) : P.mayEnter = true := by
  unfold Program.mayEnter
  rw [head_signs h]
  cases e : behindMainWord (wordsSigns l) with
  | nil => rw [e] at hw; cases hw
  | cons c r =>
    rw [e] at hw
    injection hw with hw
    subst hw
    simp only
    rw [strip_cut, h1, h2, h3]
    kernel_rfl
theorem lifts_cut {P : Program} {l : List Char} (h : P.initOrder = String.ofList l) (hw : (behindMainWord (wordsSigns l)).head? = some "cut".toList) : P.liftsFinal = false := by
  unfold Program.liftsFinal Program.headLifts
  rw [head_signs h]
  cases e : behindMainWord (wordsSigns l) with
  | nil => rw [e] at hw; cases hw
  | cons c r =>
    rw [e] at hw
    injection hw with hw
    subst hw
    simp only
    rw [strip_cut]
    kernel_rfl
theorem make_cut {P : Program} {l : List Char} (h : P.initOrder = String.ofList l) (hw : (behindMainWord (wordsSigns l)).head? = some "cut".toList) : P.make = some .cut := by
  unfold Program.make
  rw [head_signs h]
  cases e : behindMainWord (wordsSigns l) with
  | nil => rw [e] at hw; cases hw
  | cons c r =>
    rw [e] at hw
    injection hw with hw
    subst hw
    kernel_rfl
set_option maxRecDepth 1000000 in
theorem prog_mayEnter : Try.prog.mayEnter = true := mayEnter_cut (l := _) rfl (by kernel_rfl) (by kernel_rfl) (by kernel_rfl) (by kernel_rfl)
set_option maxRecDepth 1000000 in
theorem prog_lifts : Try.prog.liftsFinal = false := lifts_cut (l := _) rfl (by kernel_rfl)
set_option maxRecDepth 1000000 in
theorem prog_make : Try.prog.make = some .cut := make_cut (l := _) rfl (by kernel_rfl)
end Go.Proofs.Ytnafnhpajkhgkaa
