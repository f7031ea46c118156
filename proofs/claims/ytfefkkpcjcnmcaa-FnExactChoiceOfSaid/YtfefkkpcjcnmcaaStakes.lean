/- Stakes: two slices of stakes alike. No condition. -/
import Derived.Test.YtfefkkpcjcnmcaaFm0
namespace Go.Proofs.Ytfefkkpcjcnmcaa
set_option linter.unusedVariables false
set_option linter.unusedSimpArgs false
open Go.RowKit Mem

def skEq (a b : Sk) : Bool := decide (a.x = b.x) && decide (a.y = b.y) && decide (a.r = b.r)
def skZ : Sk := ⟨0, 0, 0⟩
def sameSk (l m : List Sk) : Bool := decide (l.length = m.length) && (List.range l.length).all fun i => skEq (l.getD i skZ) (m.getD i skZ)
theorem sameSk_no {l m : List Sk} {k : Nat} {a b : Sk} (h1 : l[k]? = some a) (h2 : m[k]? = some b) (h : skEq a b = false) : sameSk l m = false := by
  unfold sameSk
  rw [Bool.and_eq_false_iff]
  right
  rw [List.all_eq_false]
  refine ⟨k, by simpa using (List.getElem?_eq_some_iff.1 h1).1, ?_⟩
  simp [List.getD_eq_getElem?_getD, h1, h2, h]
theorem sameSk_yes {l m : List Sk} (hl : l.length = m.length) (h : ∀ k, k < l.length → skEq (l.getD k skZ) (m.getD k skZ) = true) : sameSk l m = true := by
  unfold sameSk
  rw [Bool.and_eq_true, List.all_eq_true]
  exact ⟨by simpa using hl, fun k hk => h k (by simpa using hk)⟩
theorem skEq_get {l m : List Sk} {k : Nat} {a b : Sk} (h1 : l[k]? = some a) (h2 : m[k]? = some b) : skEq (l.getD k skZ) (m.getD k skZ) = skEq a b := by simp [List.getD_eq_getElem?_getD, h1, h2]
end Go.Proofs.Ytfefkkpcjcnmcaa
