/- ContainsFunc over spots: is one of them no cell. No condition. -/
import Derived.Test.YtfefkkpcjcnmcaaCel
namespace Go.Proofs.Ytfefkkpcjcnmcaa
set_option linter.unusedVariables false
set_option linter.unusedSimpArgs false
open Go.RowKit Mem
attribute [local irreducible] Calm.wpLex

theorem bb_below {w w' : World} {g : Nat} {o : Obj} (h : w.heap[g]? = some o) (hb : Below w.heap.size w w') : w'.heap[g]? = some o := by
  rw [hb.block g (Array.getElem?_eq_some_iff.1 h).1]; exact h
theorem cellClosure_s (p : Nat → Int) (cs : Array Value) (gp : Nat) (s : Sp) (w : World) (hp : Pv p cs) (hw : w.heap[gp]? = some (.cells cs 36 (0, 0))) (hs : s.ok) :
    Calls Try.prog 204 #[.agg s.cells.toArray, .pointer (some ⟨gp, 0, none⟩)] w fun e w' => e = .returned (.bool (!(isC (p 0) (p 1) s.x s.y))) ∧ Below w.heap.size w w' :=
  cellClosure_any p cs gp s.x s.y w hp hw ⟨hs.1, hs.2.1⟩ ⟨hs.2.2.1, hs.2.2.2⟩
set_option maxRecDepth 100000 in
set_option maxHeartbeats 1000000 in
theorem idxSp_any (v : Value) (l : List Sp) (p : Nat → Int) (cs : Array Value) (gp : Nat) (w : World) (hl : Sl w 2 v (l.map Sp.cells)) (hp : Pv p cs) (hg : w.heap[gp]? = some (.cells cs 36 (0, 0))) (hok : ∀ g ∈ l, g.ok) :
    Calls Try.prog 233 #[v, .func (.func 204) #[] #[.pointer (some ⟨gp, 0, none⟩)]] w fun e w' => ∃ r, e = .returned (.int .i64 r) ∧ (decide (0 ≤ r) = l.any fun g => !isC (p 0) (p 1) g.x g.y) ∧ Below w.heap.size w w' := by
  have hL := Own.start w
  have HS := Lib.hid hl
  have HW := Lib.hid hg
  have HOK := Lib.hid hok
  have HP := Lib.hid hp
  obtain ⟨A, cap, rfl, hc1, hm1, _⟩ := hl
  rw [List.length_map] at HS hc1 ⊢
  unfold maxLen at hm1
  obtain ⟨N, hN⟩ : ∃ N, l.length = N := ⟨_, rfl⟩
  have HN := Lib.hid hN
  rw [hN] at HS hc1 ⊢
  clear hN hg hok hp
  go_enter Try.func233, Try.ntmps233
  go_wp2
  go_loopg [8] N (fun n i wr => ∃ (k : Nat), k ≤ N ∧ n = N - k ∧ i = .int .i64 k ∧ Hid (∀ j g, j < k → l[j]? = some g → isC (p 0) (p 1) g.x g.y = true) ∧ Own w.heap.size [] w wr [])
  case atStart => exact ⟨0, by omega, rfl, rfl, (fun j g hj => by omega), hL⟩
  case round =>
    clear hL
    obtain ⟨k, hk, rfl, rfl, HA, hL⟩ := hrel
    by_cases hlt : k < N
    · have HS2 := HS.out.below hL.toBelow
      have HW2 := Lib.hid (bb_below HW.out hL.toBelow)
      obtain ⟨A2, cap2, hv2, _, _, hel⟩ := HS2
      injection hv2 with hA hn2 hc2
      obtain ⟨s, hs⟩ : ∃ s, l[k]? = some s := ⟨_, List.getElem?_eq_getElem (by have := HN.out; omega)⟩
      have HSK := Lib.hid hs
      have HSO := Lib.hid (HOK.out s (List.mem_of_getElem? hs))
      have hmap : (l.map Sp.cells)[k]? = some s.cells := by rw [List.getElem?_map, hs]; rfl
      obtain ⟨hcl, b, off, hA2, hcell⟩ := hel k _ hmap
      have HC := Lib.hid hcell
      obtain rfl : A = some ⟨b, off, none⟩ := hA.trans hA2
      clear hel hmap hs hA hn2 hc2 hA2 hcell
      have hi1 : (k : Int) < (N : Int) := by omega
      obtain ⟨bb, hbb⟩ : ∃ bb, isC (p 0) (p 1) s.x s.y = bb := ⟨_, rfl⟩
      have HB := Lib.hid hbb
      cases bb with
      | true =>
        go_wp2_with (first
          | ((with_reducible refine gate_load rfl ?_); refine wpl_loadA 2 rfl rfl (by kernel_rfl) rfl (c := s.cells) HC.out (by kernel_rfl) rfl ?_)
          | (go_at_call 204; (with_reducible refine (cellClosure_s p cs gp s _ HP.out HW2.out HSO.out).mono ?_); rintro e w4 ⟨rfl, hb⟩; rw [hbb]; replace hL := hL.ext hb; clear hb))
        go_roundg (N - (k + 1))
        case measure => omega
        case rel => exact ⟨k + 1, by omega, rfl, by go_num, (fun j g hj hg => by
          rcases Nat.lt_succ_iff_lt_or_eq.1 hj with e | e
          · exact HA.out j g e hg
          · subst e; have := HSK.out; rw [hg] at this; injection this with this; subst this; exact HB.out), hL⟩
      | false =>
        go_wp2_with (first
          | ((with_reducible refine gate_load rfl ?_); refine wpl_loadA 2 rfl rfl (by kernel_rfl) rfl (c := s.cells) HC.out (by kernel_rfl) rfl ?_)
          | (go_at_call 204; (with_reducible refine (cellClosure_s p cs gp s _ HP.out HW2.out HSO.out).mono ?_); rintro e w4 ⟨rfl, hb⟩; rw [hbb]; replace hL := hL.ext hb; clear hb))
        go_ret
        refine ⟨k, rfl, ?_, hL.toBelow⟩
        have : (l.any fun g => !isC (p 0) (p 1) g.x g.y) = true := List.any_eq_true.2 ⟨s, List.mem_of_getElem? HSK.out, by rw [HB.out]; rfl⟩
        rw [this]; simp
    · go_wp2
      go_ret
      refine ⟨-1, rfl, ?_, hL.toBelow⟩
      have : (l.any fun g => !isC (p 0) (p 1) g.x g.y) = false := by
        rw [List.any_eq_false]
        intro s hs
        obtain ⟨j, hj⟩ := List.mem_iff_getElem?.1 hs
        have hjl : j < l.length := (List.getElem?_eq_some_iff.1 hj).1
        rw [HA.out j s (by have := HN.out; omega) hj]; simp
      rw [this]; simp
set_option maxRecDepth 100000 in
theorem hasSp_any (v : Value) (l : List Sp) (p : Nat → Int) (cs : Array Value) (gp : Nat) (w : World) (hl : Sl w 2 v (l.map Sp.cells)) (hp : Pv p cs) (hg : w.heap[gp]? = some (.cells cs 36 (0, 0))) (hok : ∀ g ∈ l, g.ok) :
    Calls Try.prog 186 #[v, .func (.func 204) #[] #[.pointer (some ⟨gp, 0, none⟩)]] w fun e w' => e = .returned (.bool (l.any fun g => !isC (p 0) (p 1) g.x g.y)) ∧ Below w.heap.size w w' := by
  go_enter Try.func186, Try.ntmps186
  go_wp2_with (first
    | (go_at_call 233; (with_reducible refine (idxSp_any v l p cs gp _ hl hp hg hok).mono ?_); rintro e w4 ⟨r, rfl, hr, hb⟩))
  go_ret
  exact ⟨by rw [← hr]; rfl, hb⟩
end Go.Proofs.Ytfefkkpcjcnmcaa
