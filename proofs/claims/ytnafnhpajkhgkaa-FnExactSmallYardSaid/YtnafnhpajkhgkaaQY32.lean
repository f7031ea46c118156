import Derived.Test.YtnafnhpajkhgkaaQY09
import Derived.Test.YtnafnhpajkhgkaaQY12
import Derived.Test.YtnafnhpajkhgkaaQY14
import Derived.Test.YtnafnhpajkhgkaaQY15
import Derived.Test.YtnafnhpajkhgkaaQY17
import Derived.Test.YtnafnhpajkhgkaaQY22
import Derived.Test.YtnafnhpajkhgkaaQY23
import Derived.Test.YtnafnhpajkhgkaaQY25
import Derived.Test.YtnafnhpajkhgkaaQY31
/- The reference's way between two cells. A valid pasture, cells of it. -/
namespace Go.Proofs.Ytnafnhpajkhgkaa
set_option linter.unusedVariables false
set_option linter.unusedSimpArgs false
open Go.RowKit Mem Wk
attribute [local irreducible] Calls Wk.S Wk.C Wk.E Wk.X Wk.T Wk.andV Wk.shrV Calm.wpLex bfsN stepsP bfs
/-- the index of the first one that is nearer, so far -/
def BsI (p : Nat → Int) (D : Nat → Int) (s : Sp) (j : Nat) (m : Int) : Prop :=
  (m = -1 ∧ ((nbP p s).take j).filter (fun c => decide (D (ci c) = D (ci s) - 1)) = []) ∨ ∃ (i : Nat) (c : Sp) (t : List Sp), m = (i : Int) ∧ i < j ∧ ((nbP p s).take j).filter (fun c => decide (D (ci c) = D (ci s) - 1)) = c :: t ∧ (nbP p s)[i]? = some (minS c t)
theorem BsI.zero (p : Nat → Int) (D : Nat → Int) (s : Sp) : BsI p D s 0 (-1) := .inl ⟨rfl, by simp⟩
section
variable {p : Nat → Int} {D : Nat → Int} {s x : Sp} {j : Nat} {m : Int}
theorem near_snoc (hx : (nbP p s)[j]? = some x) : ((nbP p s).take (j + 1)).filter (fun c => decide (D (ci c) = D (ci s) - 1)) = ((nbP p s).take j).filter (fun c => decide (D (ci c) = D (ci s) - 1)) ++ if D (ci x) = D (ci s) - 1 then [x] else [] := by
  rw [List.take_add_one, hx, List.filter_append]
  by_cases h : D (ci x) = D (ci s) - 1
  · simp [h]
  · simp [h]
theorem BsI.first (h : BsI p D s j m) (hx : (nbP p s)[j]? = some x) (hf : D (ci x) = D (ci s) - 1) (hm : m < 0) : BsI p D s (j + 1) (j : Int) := by
  unfold BsI
  rw [near_snoc hx, if_pos hf]
  rcases h with h | ⟨i, c, t, h1, h2, h3⟩
  · rw [h.2]; exact .inr ⟨j, x, [], rfl, by omega, rfl, hx⟩
  · omega
theorem BsI.at_ (h : BsI p D s j m) (hm : ¬ m < 0) : ∃ (i : Nat) (c : Sp) (t : List Sp), m = (i : Int) ∧ i < j ∧ ((nbP p s).take j).filter (fun c => decide (D (ci c) = D (ci s) - 1)) = c :: t ∧ (nbP p s)[i]? = some (minS c t) := by
  rcases h with h | h
  · omega
  · exact h
theorem BsI.more {i : Nat} {c : Sp} {t : List Sp} (hn : ((nbP p s).take j).filter (fun c => decide (D (ci c) = D (ci s) - 1)) = c :: t) (hi : i < j) (hat : (nbP p s)[i]? = some (minS c t)) (hx : (nbP p s)[j]? = some x) (hf : D (ci x) = D (ci s) - 1) (hl : ¬ ltS x (minS c t)) : BsI p D s (j + 1) (i : Int) := by
  unfold BsI
  rw [near_snoc hx, if_pos hf, hn]
  exact .inr ⟨i, c, t ++ [x], rfl, by omega, rfl, by rw [minS_snoc, if_neg hl]; exact hat⟩
end
end Go.Proofs.Ytnafnhpajkhgkaa
