/- Cells in a grid: rows, filters. Plain Lean, no condition. -/
import Derived.Test.YtfefkkpcjcnmcaaClo
namespace Go.Proofs.Ytfefkkpcjcnmcaa
set_option linter.unusedVariables false
set_option linter.unusedSimpArgs false

/-- a row's cells that are accepted -/
def rowL (f : Sp → Bool) (y : Nat) : Nat → List Sp
  | 0 => []
  | x + 1 => rowL f y x ++ if f ⟨(x : Int), (y : Int)⟩ then [⟨(x : Int), (y : Int)⟩] else []
def gridL (f : Sp → Bool) (W : Nat) : Nat → List Sp
  | 0 => []
  | y + 1 => gridL f W y ++ rowL f y W
theorem cellL_row (f : Sp → Bool) (W y : Nat) : ∀ x, x ≤ W → cellL f W (y * W + x) = cellL f W (y * W) ++ rowL f y x
  | 0, _ => by simp [rowL]
  | x + 1, h => by
    have ih := cellL_row f W y x (by omega)
    rw [rowL]
    cases hf : f ⟨(x : Int), (y : Int)⟩
    · rw [cellL_no (by omega) hf, ih]; simp
    · rw [cellL_yes (by omega) hf, ih]; simp
theorem cellL_grid (f : Sp → Bool) (W : Nat) : ∀ y, cellL f W (y * W) = gridL f W y
  | 0 => by simp [cellL, gridL]
  | y + 1 => by rw [Nat.succ_mul, cellL_row f W y W (Nat.le_refl _), cellL_grid f W y, gridL]
theorem rowL_congr {f g : Sp → Bool} {y : Nat} : ∀ {x : Nat}, (∀ u : Nat, u < x → f ⟨(u : Int), (y : Int)⟩ = g ⟨(u : Int), (y : Int)⟩) → rowL f y x = rowL g y x
  | 0, _ => rfl
  | x + 1, h => by rw [rowL, rowL, rowL_congr (x := x) (fun u hu => h u (by omega)), h x (by omega)]
theorem gridL_congr {f g : Sp → Bool} {W : Nat} : ∀ {H : Nat}, (∀ u v : Nat, u < W → v < H → f ⟨(u : Int), (v : Int)⟩ = g ⟨(u : Int), (v : Int)⟩) → gridL f W H = gridL g W H
  | 0, _ => rfl
  | y + 1, h => by rw [gridL, gridL, gridL_congr (H := y) (fun u v hu hv => h u v hu (by omega)), rowL_congr (fun u hu => h u y hu (by omega))]
theorem rowL_more {f : Sp → Bool} {y W : Nat} : ∀ d : Nat, (∀ u : Nat, W ≤ u → u < W + d → f ⟨(u : Int), (y : Int)⟩ = false) → rowL f y (W + d) = rowL f y W
  | 0, _ => rfl
  | d + 1, h => by
    rw [← Nat.add_assoc, rowL, rowL_more d (fun u h1 h2 => h u h1 (by omega)), h (W + d) (by omega) (by omega)]; simp
theorem rowL_none {f : Sp → Bool} {y : Nat} (W : Nat) (h : ∀ u : Nat, u < W → f ⟨(u : Int), (y : Int)⟩ = false) : rowL f y W = [] := by
  have := rowL_more (f := f) (y := y) (W := 0) W (fun u _ h2 => h u (by omega))
  rw [Nat.zero_add] at this; rw [this]; rfl
theorem gridL_more {f : Sp → Bool} {W H : Nat} : ∀ d : Nat, (∀ u v : Nat, u < W → H ≤ v → v < H + d → f ⟨(u : Int), (v : Int)⟩ = false) → gridL f W (H + d) = gridL f W H
  | 0, _ => rfl
  | d + 1, h => by
    rw [← Nat.add_assoc, gridL, gridL_more d (fun u v h0 h1 h2 => h u v h0 h1 (by omega)), rowL_none W (fun u hu => h u (H + d) hu (by omega) (by omega))]; simp
theorem gridL_wide {f : Sp → Bool} {W : Nat} (d : Nat) : ∀ {H : Nat}, (∀ u v : Nat, W ≤ u → u < W + d → v < H → f ⟨(u : Int), (v : Int)⟩ = false) → gridL f (W + d) H = gridL f W H
  | 0, _ => rfl
  | y + 1, h => by rw [gridL, gridL, gridL_wide d (H := y) (fun u v h1 h2 h3 => h u v h1 h2 (by omega)), rowL_more d (fun u h1 h2 => h u y h1 h2 (by omega))]
/-- A grid of 10 by 10 where nothing outside is accepted. -/
theorem cellL_ten {f : Sp → Bool} {W H : Nat} (hW : W ≤ 10) (hH : H ≤ 10) (h : ∀ u v : Nat, u < 10 → v < 10 → ¬ (u < W ∧ v < H) → f ⟨(u : Int), (v : Int)⟩ = false) : cellL f 10 (10 * 10) = cellL f W (H * W) := by
  rw [cellL_grid, cellL_grid]
  obtain ⟨d, hd⟩ : ∃ d, W + d = 10 := ⟨10 - W, by omega⟩
  obtain ⟨e, he⟩ : ∃ e, H + e = 10 := ⟨10 - H, by omega⟩
  have h1 := gridL_more (f := f) (W := 10) (H := H) e (fun u v h0 h1 h2 => h u v (by omega) (by omega) (by omega))
  have h2 := gridL_wide (f := f) (W := W) d (H := H) (fun u v h1 h2 h3 => h u v (by omega) (by omega) (by omega))
  rw [he] at h1; rw [hd] at h2
  rw [h1, h2]
theorem cellL_congr {f g : Sp → Bool} {W H : Nat} (h : ∀ u v : Nat, u < W → v < H → f ⟨(u : Int), (v : Int)⟩ = g ⟨(u : Int), (v : Int)⟩) : cellL f W (H * W) = cellL g W (H * W) := by
  rw [cellL_grid, cellL_grid]; exact gridL_congr h
theorem cellL_filter (f g : Sp → Bool) (W k : Nat) : (cellL f W k).filter g = cellL (fun c => f c && g c) W k := by
  unfold cellL; rw [List.filter_filter]; congr 1; funext c; exact Bool.and_comm _ _
theorem cellL_mem {f : Sp → Bool} {W H : Nat} {c : Sp} (h : c ∈ cellL f W (H * W)) : f c = true ∧ 0 ≤ c.x ∧ c.x < W ∧ 0 ≤ c.y ∧ c.y < H := by
  unfold cellL at h
  obtain ⟨h1, h2⟩ := List.mem_filter.1 h
  obtain ⟨k, hk, rfl⟩ := List.mem_map.1 h1
  have hk := List.mem_range.1 hk
  have hW : 0 < W := by
    rcases Nat.eq_zero_or_pos W with e | e
    · subst e; simp at hk
    · exact e
  have h3 := Nat.mod_lt k hW
  have h4 : k / W < H := (Nat.div_lt_iff_lt_mul hW).2 hk
  refine ⟨h2, ?_⟩
  unfold cellN; simp only
  generalize k % W = a at *
  generalize k / W = b at *
  omega
theorem cellL_in {f : Sp → Bool} {W H : Nat} {c : Sp} (hf : f c = true) (hx : 0 ≤ c.x ∧ c.x < W) (hy : 0 ≤ c.y ∧ c.y < H) : c ∈ cellL f W (H * W) := by
  obtain ⟨x, y⟩ := c
  obtain ⟨a, rfl⟩ : ∃ a : Nat, x = (a : Int) := ⟨x.toNat, by simp only at hx; omega⟩
  obtain ⟨b, rfl⟩ : ∃ b : Nat, y = (b : Int) := ⟨y.toNat, by simp only at hy; omega⟩
  simp only at hx hy
  have ha : a < W := by omega
  have hb : b < H := by omega
  unfold cellL
  refine List.mem_filter.2 ⟨List.mem_map.2 ⟨b * W + a, List.mem_range.2 ?_, cellN_at b ha⟩, hf⟩
  calc b * W + a < b * W + W := by omega
    _ = (b + 1) * W := (Nat.succ_mul b W).symm
    _ ≤ H * W := Nat.mul_le_mul_right W (by omega)
end Go.Proofs.Ytfefkkpcjcnmcaa
