import Derived.Test.YtpifngdmlmfnhaaQB41
/- Goats: the reference's validity of a list. No condition. -/
namespace Go.Proofs.Ytpifngdmlmfnhaa
set_option linter.unusedVariables false
set_option linter.unusedSimpArgs false
open Go.RowKit Mem
attribute [local irreducible] Calm.wpLex
theorem l02Goat_any (p : Nat → Int) (cs : Array Value) (T : TypeId) (gp b off : Nat) (g : Gt) (w : World) (hp : Pv p cs) (hw : w.heap[gp]? = some (.cells cs T (0, 0))) (ha : p 0 ≤ 10) (hb : p 1 ≤ 10) (hg : g.ok) (hc : CellsAt w b off g.cells) :
    Calls Try.prog 197 #[.pointer (some ⟨gp, 0, none⟩), .pointer (some ⟨b, off, none⟩)] w fun e w' => e = .returned (.bool (goatOk p g)) ∧ Below w.heap.size w w' :=
  l02Goat_raw p cs T gp b off g.x g.y g.u g.v g.rope g.eats g.likes w hp hw ha hb hg hc
theorem all_no {l : List Gt} {p : Nat → Int} {k : Nat} {g : Gt} (hk : l[k]? = some g) (h : goatOk p g = false) : validGt p l = false := by
  have : l.all (goatOk p) = false := by
    rw [List.all_eq_false]; exact ⟨g, List.mem_of_getElem? hk, by rw [h]; simp⟩
  unfold validGt; rw [this]; simp
set_option maxRecDepth 100000 in
set_option maxHeartbeats 4000000 in
theorem l02Ok_any (p : Nat → Int) (cs : Array Value) (T : TypeId) (g : Nat) (v : Value) (l : List Gt) (w : World) (hp : Pv p cs) (hg : w.heap[g]? = some (.cells cs T (0, 0))) (hl : Sl w 7 v (l.map Gt.cells)) (hok : ∀ s ∈ l, s.ok) :
    Calls Try.prog 118 #[.pointer (some ⟨g, 0, none⟩), v] w fun e w' => e = .returned (.bool (validGt p l)) ∧ Below w.heap.size w w' := by
  have hL := Own.start w
  have HP := Lib.hid hp
  have HW := Lib.hid hg
  have HS := Lib.hid hl
  have HOK := Lib.hid hok
  obtain ⟨A, cap, rfl, hc1, hm1, _⟩ := hl
  rw [List.length_map] at HS hc1 ⊢
  unfold maxLen at hm1
  clear hp hok hg
  obtain ⟨N, hN⟩ : ∃ N, l.length = N := ⟨_, rfl⟩
  have HN := Lib.hid hN
  rw [hN] at HS hc1 ⊢
  clear hN
  cases hvp : validP p with
  | false =>
    have hv : validGt p l = false := by unfold validGt; rw [hvp]; rfl
    go_enter Try.func118, Try.ntmps118
    go_wp2_with (first
      | (go_at_call 148; (with_reducible refine (l01Ok_any p cs T g _ HP.out (block_below HW.out hL.toBelow)).mono ?_); rintro e w4 ⟨rfl, hb⟩; rw [hvp]; replace hL := hL.ext hb; clear hb))
    go_ret
    exact ⟨by first | (rw [hv]; rfl) | rfl, hL.toBelow⟩
  | true =>
  obtain ⟨ha, hb⟩ := valid_small hvp
  have HVP := Lib.hid hvp
  go_enter Try.func118, Try.ntmps118
  go_wp2_with (first
    | (go_at_call 148; (with_reducible refine (l01Ok_any p cs T g _ HP.out (block_below HW.out hL.toBelow)).mono ?_); rintro e w4 ⟨rfl, hb⟩; rw [hvp]; replace hL := hL.ext hb; clear hb))
  go_loopg [5] N (fun n i wr => ∃ (k : Nat), k ≤ N ∧ n = N - k ∧ i = .int .i64 k ∧ Hid (∀ j g, j < k → l[j]? = some g → goatOk p g = true) ∧ Own w.heap.size [] w wr [])
  case atStart => exact ⟨0, by omega, rfl, rfl, (fun j g hj => by omega), hL⟩
  case round =>
    clear hL
    obtain ⟨k, hk, rfl, rfl, HA, hL⟩ := hrel
    by_cases hlt : k < N
    · have HS2 := HS.out.below hL.toBelow
      obtain ⟨A2, cap2, hv2, _, _, hel⟩ := HS2
      injection hv2 with hA hn2 hc2
      obtain ⟨s, hs⟩ : ∃ s, l[k]? = some s := ⟨_, List.getElem?_eq_getElem (by have := HN.out; omega)⟩
      have HSK := Lib.hid hs
      have HSO := Lib.hid (HOK.out s (List.mem_of_getElem? hs))
      have hmap : (l.map Gt.cells)[k]? = some s.cells := by rw [List.getElem?_map, hs]; rfl
      obtain ⟨hcl, b, off, hA2, hcell⟩ := hel k _ hmap
      have HC : Hid (CellsAt wr b (off + k * 7) s.cells) := hcell
      obtain rfl : A = some ⟨b, off, none⟩ := hA.trans hA2
      clear hel hmap hs hA hn2 hc2 hA2 hcell
      have hi1 : (k : Int) < (N : Int) := by omega
      obtain ⟨bb, hbb⟩ : ∃ bb, goatOk p s = bb := ⟨_, rfl⟩
      have HB := Lib.hid hbb
      cases bb with
      | false =>
        have hv : validGt p l = false := all_no HSK.out HB.out
        go_wp2_with (first
          | (go_at_call 197; (with_reducible refine (l02Goat_any p cs T g b (off + k * 7) s _ HP.out (block_below HW.out hL.toBelow) ha hb HSO.out HC.out).mono ?_); rintro e w4 ⟨rfl, hb⟩; rw [hbb]; replace hL := hL.ext hb; clear hb))
        go_ret
        exact ⟨by first | (rw [hv]; rfl) | rfl, hL.toBelow⟩
      | true =>
        go_wp2_with (first
          | (go_at_call 197; (with_reducible refine (l02Goat_any p cs T g b (off + k * 7) s _ HP.out (block_below HW.out hL.toBelow) ha hb HSO.out HC.out).mono ?_); rintro e w4 ⟨rfl, hb⟩; rw [hbb]; replace hL := hL.ext hb; clear hb))
        go_roundg (N - (k + 1))
        case measure => omega
        case rel => exact ⟨k + 1, by omega, rfl, by go_num, (fun j g hj hg => by
          rcases Nat.lt_succ_iff_lt_or_eq.1 hj with e | e
          · exact HA.out j g e hg
          · subst e; have := HSK.out; rw [hg] at this; injection this with this; subst this; exact HB.out), hL⟩
    · obtain rfl : k = N := by omega
      have hall : l.all (goatOk p) = true := by
        rw [List.all_eq_true]
        intro s hs
        obtain ⟨j, hj⟩ := List.mem_iff_getElem?.1 hs
        have hjl : j < l.length := (List.getElem?_eq_some_iff.1 hj).1
        exact HA.out j s (by have := HN.out; omega) hj
      have HV : Hid (validGt p l = decide ((k : Int) ≤ 20)) := by
        show validGt p l = _
        unfold validGt
        rw [hall, HVP.out, HN.out, Bool.true_and, Bool.and_true]
        exact decide_eq_decide.2 (by omega)
      clear hall
      go_wp2
      go_ret
      exact ⟨by rw [HV.out]; rfl, hL.toBelow⟩
end Go.Proofs.Ytpifngdmlmfnhaa
