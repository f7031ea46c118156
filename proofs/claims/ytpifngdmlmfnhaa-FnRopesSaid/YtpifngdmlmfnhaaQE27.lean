import Derived.Test.YtpifngdmlmfnhaaQE11
import Derived.Test.YtpifngdmlmfnhaaQE16
import Derived.Test.YtpifngdmlmfnhaaQE17
import Derived.Test.YtpifngdmlmfnhaaQE19
/- Yards: that one cell can be reached from another is an equivalence; numbers of yards. Plain, no condition. -/
namespace Go.Proofs.Ytpifngdmlmfnhaa
set_option linter.unusedVariables false
set_option linter.unusedSimpArgs false
open Go.RowKit Mem Wk
def cel (p : Nat → Int) (c : Sp) : Prop := isC (p 0) (p 1) c.x c.y = true
theorem besL_ex {p : Nat → Int} {x y : Int} {c : Sp} : ∀ {k : Nat}, c ∈ besL p x y k ↔ ∃ s : Nat, s < k ∧ canB p x y (s : Int) = true ∧ c = ⟨nextX x (s : Int), nextY y (s : Int)⟩
  | k => by
    unfold besL
    rw [List.mem_map]
    constructor
    · rintro ⟨s, hs, rfl⟩
      obtain ⟨h1, h2⟩ := List.mem_filter.1 hs
      exact ⟨s, List.mem_range.1 h1, h2, rfl⟩
    · rintro ⟨s, h1, h2, rfl⟩
      exact ⟨s, List.mem_filter.2 ⟨List.mem_range.2 h1, h2⟩, rfl⟩
theorem nbP_symm {p : Nat → Int} {a b : Sp} (ha : cel p a) (h : b ∈ nbP p a) : a ∈ nbP p b := by
  obtain ⟨s, hs, hc, rfl⟩ := besL_ex.1 h
  unfold canB at hc
  rw [Bool.and_eq_true] at hc
  obtain ⟨h1, h2⟩ := hc
  unfold cel at ha
  refine besL_ex.2 ?_
  have h4 : s = 0 ∨ s = 1 ∨ s = 2 ∨ s = 3 := by omega
  obtain ⟨x, y⟩ := a
  simp only at ha h1 h2 ⊢
  rcases h4 with rfl | rfl | rfl | rfl
  · refine ⟨2, by omega, ?_, ?_⟩
    · unfold canB
      simp [nextX, nextY, hdX, hdY, hdS] at h1 h2 ⊢
      exact ⟨ha, h2⟩
    · simp [nextX, nextY]
  · refine ⟨3, by omega, ?_, ?_⟩
    · unfold canB
      simp [nextX, nextY, hdX, hdY, hdS] at h1 h2 ⊢
      exact ⟨ha, h2⟩
    · simp [nextX, nextY]
  · refine ⟨0, by omega, ?_, ?_⟩
    · unfold canB
      simp [nextX, nextY, hdX, hdY, hdS] at h1 h2 ⊢
      exact ⟨ha, h2⟩
    · simp [nextX, nextY]
  · refine ⟨1, by omega, ?_, ?_⟩
    · unfold canB
      simp [nextX, nextY, hdX, hdY, hdS] at h1 h2 ⊢
      exact ⟨ha, h2⟩
    · simp [nextX, nextY]
end Go.Proofs.Ytpifngdmlmfnhaa
/- How often a cell stands in a list, and what a function says of that: the program's closure. No condition. -/
namespace Go.Proofs.Ytpifngdmlmfnhaa
set_option linter.unusedVariables false
set_option linter.unusedSimpArgs false
open Go.RowKit Mem Wk
attribute [local irreducible] Calls Wk.S Wk.C Wk.E Wk.X Wk.T Wk.Y Wk.anV Wk.orV Wk.andV Wk.shlV Wk.shrV Calm.wpLex CalmB.wpLex
theorem r_eqSpV {n : Nat} {O : List Nat} {w0 : World} {l : List (Nat × Value)} {L : List (Nat × TypeId × Array Value)} {o : Oper} {x y : Operand} {t' : Nat} {a b c d : Int} {v : Bool} (ho : o.op = .binOp .eql 88 x y t') (hx : ev l x = some (.agg #[.int .i8 a, .int .i8 b])) (hy : ev l y = some (.agg #[.int .i8 c, .int .i8 d])) (hv : (decide (a = c) && decide (b = d)) = v) : Rn Try.prog n O w0 l L o (.bool v) := by
  subst hv; exact r_eqSpot ho hx hy
end Go.Proofs.Ytpifngdmlmfnhaa
