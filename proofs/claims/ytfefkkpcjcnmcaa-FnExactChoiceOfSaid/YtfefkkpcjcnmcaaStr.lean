/- Cells within steps: both functions. No condition. -/
import Derived.Test.YtfefkkpcjcnmcaaBl
namespace Go.Proofs.Ytfefkkpcjcnmcaa
set_option linter.unusedVariables false
set_option linter.unusedSimpArgs false
open Go.RowKit Mem Wk
attribute [local irreducible] Calls Wk.S Wk.C Wk.E Wk.X Wk.T Wk.Y Wk.anV Wk.orV Wk.andV Wk.shlV Wk.shrV Calm.wpLex CalmB.wpLex bfsN

theorem one_slA (o : Sp) {w : World} {b : Nat} {T : TypeId} (h : w.heap[b]? = some (.cells #[.int .i8 o.x, .int .i8 o.y] T (0, 0))) : SlA [] w 2 (some ⟨b, 0, none⟩) ([o].map Sp.cells) := by
  have hA : Ap 2 1 1 #[.int .i8 o.x, .int .i8 o.y] (([o].map Sp.cells).flatten) := ⟨rfl, Nat.le_refl _, by unfold maxLen; simp, rfl, rfl⟩
  exact hA.slA (lenSp [o]) h
/-- wide and high of a pasture that has a cell -/
theorem dims {p : Nat → Int} {x y : Int} (ha : p 0 ≤ 10) (hb : p 1 ≤ 10) (hc : isC (p 0) (p 1) x y = true) : p 0 = ((p 0).toNat : Int) ∧ p 1 = ((p 1).toNat : Int) ∧ (p 0).toNat ≤ 10 ∧ (p 1).toNat ≤ 10 := by
  unfold isC inB at hc; simp at hc; omega
/-- the cells of a pasture for which something holds -/
def pasL (p : Nat → Int) (f : Sp → Bool) : List Sp := cellL f (p 0).toNat ((p 1).toNat * (p 0).toNat)
theorem pasL_ten {p : Nat → Int} {f g : Sp → Bool} {x y : Int} (ha : p 0 ≤ 10) (hb : p 1 ≤ 10) (hc : isC (p 0) (p 1) x y = true) (h : ∀ c, inR c → f c = (isC (p 0) (p 1) c.x c.y && g c)) : cellL f 10 (10 * 10) = pasL p g := by
  obtain ⟨hW, hH, hW10, hH10⟩ := dims ha hb hc
  unfold pasL
  rw [cellL_ten hW10 hH10 (fun u v hu hv hn => by
    rw [h _ ⟨by show (0 : Int) ≤ (u : Int); omega, by show (u : Int) < 10; omega, by show (0 : Int) ≤ (v : Int); omega, by show (v : Int) < 10; omega⟩]
    have e : isC (p 0) (p 1) (u : Int) (v : Int) = false := by
      rw [hW, hH]; unfold isC inB; simp; omega
    rw [e]; rfl)]
  refine cellL_congr fun u v hu hv => ?_
  rw [h _ ⟨by show (0 : Int) ≤ (u : Int); omega, by show (u : Int) < 10; omega, by show (0 : Int) ≤ (v : Int); omega, by show (v : Int) < 10; omega⟩]
  have e : isC (p 0) (p 1) (u : Int) (v : Int) = true := by
    rw [hW, hH]; unfold isC inB; simp; omega
  rw [e]; rfl
theorem askC_fst (p : Nat → Int) (o : Sp) (b : Bool) : fstC [cellC p [o], if b then 0 else 2] = askC p o.x o.y b := by
  obtain ⟨x, y⟩ := o
  unfold fstC; rw [cellC1]; unfold askC fstC
  cases validP p <;> cases isC (p 0) (p 1) x y <;> cases b <;> simp [fstC]
theorem one_isC {p : Nat → Int} {o : Sp} (h : isC (p 0) (p 1) o.x o.y = true) : ∀ c ∈ [o], isC (p 0) (p 1) c.x c.y = true := fun c hc => by simp at hc; subst hc; exact h
def strD (p : Nat → Int) (o : Sp) : Nat → Int := (stepsP p [o]).1
theorem strD_val (p : Nat → Int) {o : Sp} (h : inR o) (j : Nat) : 0 ≤ strD p o j ∧ strD p o j ≤ 101 := stepsP_val p (fun c hc => by simp at hc; subst hc; exact h) j
end Go.Proofs.Ytfefkkpcjcnmcaa
