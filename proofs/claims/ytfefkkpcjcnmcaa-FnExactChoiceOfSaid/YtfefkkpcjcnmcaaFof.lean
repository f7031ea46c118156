/- The first of two codes. No condition. -/
import Derived.Test.YtfefkkpcjcnmcaaOk
namespace Go.Proofs.Ytfefkkpcjcnmcaa
set_option linter.unusedVariables false
set_option linter.unusedSimpArgs false
open Go.RowKit Mem
attribute [local irreducible] Calm.wpLex

set_option maxRecDepth 100000 in
set_option maxHeartbeats 1000000 in
theorem firstOf2_any (a b : Int) (g : Nat) (T : TypeId) (w : World) (hg : w.heap[g]? = some (.cells #[.int .i64 a, .int .i64 b] T (0, 0))) :
    Calls Try.prog 116 #[.slice (some ⟨g, 0, none⟩) 2 2] w fun e w' => e = .returned (.int .i64 (if a = 0 then b else a)) ∧ w = w' := by
  have h0 : Hid (w.cell? ⟨g, 0, none⟩ = some (.int .i64 a)) := by show w.cell? _ = _; rw [cell_of_row w g 0 _ T (0, 0) hg]; rfl
  have h1 : Hid (w.cell? ⟨g, 1, none⟩ = some (.int .i64 b)) := by show w.cell? _ = _; rw [cell_of_row w g 1 _ T (0, 0) hg]; rfl
  go_enter Try.func116, Try.ntmps116
  go_wp2
  go_loopg [7] 2 (fun n i wr => ∃ (k : Nat), k ≤ 2 ∧ n = 2 - k ∧ i = .int .i64 k ∧ Hid ((0 < k → a = 0) ∧ (1 < k → b = 0)) ∧ w = wr)
  case atStart => exact ⟨0, by omega, rfl, rfl, ⟨fun h => by omega, fun h => by omega⟩, rfl⟩
  case round =>
    obtain ⟨k, hk, rfl, rfl, HK, rfl⟩ := hrel
    match k, hk with
    | 0, _ =>
      by_cases ha : a = 0
      · have HA := Lib.hid ha
        go_wp2_with (first
          | ((with_reducible refine gate_load rfl ?_); (refine wpl_load1 rfl rfl (by kernel_rfl) rfl (h0.out) ?_)))
        go_roundg 1
        case measure => omega
        case rel => exact ⟨1, by omega, rfl, by go_num, ⟨fun _ => HA.out, fun h => by omega⟩, rfl⟩
      · have HA := Lib.hid ha
        go_wp2_with (first
          | ((with_reducible refine gate_load rfl ?_); (refine wpl_load1 rfl rfl (by kernel_rfl) rfl (h0.out) ?_)))
        go_ret
        exact ⟨by first | (rw [if_neg HA.out]; rfl) | rfl, rfl⟩
    | 1, _ =>
      have HA := Lib.hid (HK.out.1 (by omega))
      by_cases hb : b = 0
      · have HB := Lib.hid hb
        go_wp2_with (first
          | ((with_reducible refine gate_load rfl ?_); (refine wpl_load1 rfl rfl (by kernel_rfl) rfl (h1.out) ?_)))
        go_roundg 0
        case measure => omega
        case rel => exact ⟨2, by omega, rfl, by go_num, ⟨fun _ => HA.out, fun _ => HB.out⟩, rfl⟩
      · have HB := Lib.hid hb
        go_wp2_with (first
          | ((with_reducible refine gate_load rfl ?_); (refine wpl_load1 rfl rfl (by kernel_rfl) rfl (h1.out) ?_)))
        go_ret
        exact ⟨by first | (rw [if_pos HA.out]; rfl) | rfl, rfl⟩
    | 2, _ =>
      have HA := Lib.hid (HK.out.1 (by omega))
      have HB := Lib.hid (HK.out.2 (by omega))
      go_wp2
      go_ret
      exact ⟨by first | (rw [if_pos HA.out, HB.out]; rfl) | (rw [HB.out]; rfl) | rfl, rfl⟩
end Go.Proofs.Ytfefkkpcjcnmcaa
