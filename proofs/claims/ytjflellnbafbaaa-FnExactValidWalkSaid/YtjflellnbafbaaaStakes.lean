/- Stakes: two slices of stakes alike. No condition. -/
import Derived.Test.YtjflellnbafbaaaFam
namespace Go.Proofs.Ytjflellnbafbaaa
set_option linter.unusedVariables false
set_option linter.unusedSimpArgs false
open Go.RowKit Mem

def skEq (a b : Sk) : Bool := decide (a.x = b.x) && decide (a.y = b.y) && decide (a.r = b.r)
def skZ : Sk := ⟨0, 0, 0⟩
def sameSk (l m : List Sk) : Bool := decide (l.length = m.length) && (List.range l.length).all fun i => skEq (l.getD i skZ) (m.getD i skZ)
theorem sameSk_no {l m : List Sk} {k : Nat} {a b : Sk} (h1 : l[k]? = some a) (h2 : m[k]? = some b) (h : skEq a b = false) : sameSk l m = false := by
  unfold sameSk
  rw [Bool.and_eq_false_iff]
  right
  rw [List.all_eq_false]
  refine ⟨k, by simpa using (List.getElem?_eq_some_iff.1 h1).1, ?_⟩
  simp [List.getD_eq_getElem?_getD, h1, h2, h]
theorem sameSk_yes {l m : List Sk} (hl : l.length = m.length) (h : ∀ k, k < l.length → skEq (l.getD k skZ) (m.getD k skZ) = true) : sameSk l m = true := by
  unfold sameSk
  rw [Bool.and_eq_true, List.all_eq_true]
  exact ⟨by simpa using hl, fun k hk => h k (by simpa using hk)⟩
theorem skEq_get {l m : List Sk} {k : Nat} {a b : Sk} (h1 : l[k]? = some a) (h2 : m[k]? = some b) : skEq (l.getD k skZ) (m.getD k skZ) = skEq a b := by simp [List.getD_eq_getElem?_getD, h1, h2]
set_option maxRecDepth 100000 in
set_option maxHeartbeats 400000 in
theorem specSameStakes_any (v u : Value) (l m : List Sk) (w : World) (hl : Sl w 3 v (l.map Sk.cells)) (hr : Sl w 3 u (m.map Sk.cells)) :
    Calls Try.prog 19 #[v, u] w fun e w' => e = .returned (.bool (sameSk l m)) ∧ Below w.heap.size w w' := by
  have hL := Own.start w
  have HS := Lib.hid hl
  have HR := Lib.hid hr
  obtain ⟨A, cap, rfl, hc1, hm1, _⟩ := hl
  obtain ⟨A', cap', rfl, hc2, hm2, _⟩ := hr
  rw [List.length_map] at HS HR hc1 hc2 ⊢
  rw [List.length_map]
  unfold maxLen at hm1 hm2
  by_cases hlm : l.length = m.length
  · obtain ⟨N, hN⟩ : ∃ N, l.length = N := ⟨_, rfl⟩
    have HN := Lib.hid hN
    have HM := Lib.hid (hlm.symm.trans hN)
    rw [hlm.symm.trans hN] at HR hc2 ⊢
    rw [hN] at HS hc1 ⊢
    clear hN hlm hc2
    go_enter Try.func19, Try.ntmps19
    go_wp2
    go_loopg [5] N (fun n i wr => ∃ (k : Nat), k ≤ N ∧ n = N - k ∧ i = .int .i64 k ∧ Hid (∀ j, j < k → skEq (l.getD j skZ) (m.getD j skZ) = true) ∧ Own w.heap.size [] w wr [])
    case atStart => exact ⟨0, by omega, rfl, rfl, (fun j hj => by omega), hL⟩
    case round =>
      clear hL
      obtain ⟨k, hk, rfl, rfl, HA, hL⟩ := hrel
      by_cases hlt : k < N
      · have HS2 := HS.out.below hL.toBelow
        have HR2 := HR.out.below hL.toBelow
        obtain ⟨A2, cap2, hv2, _, _, hel⟩ := HS2
        obtain ⟨A3, cap3, hv3, _, _, hel3⟩ := HR2
        injection hv2 with hA hn2 hc2
        injection hv3 with hA' hn3 hc3
        obtain ⟨s, hs⟩ : ∃ s, l[k]? = some s := ⟨_, List.getElem?_eq_getElem (by have := HN.out; omega)⟩
        obtain ⟨t, ht⟩ : ∃ t, m[k]? = some t := ⟨_, List.getElem?_eq_getElem (by have := HM.out; omega)⟩
        have HSK := Lib.hid hs
        have HTK := Lib.hid ht
        have hmap : (l.map Sk.cells)[k]? = some s.cells := by rw [List.getElem?_map, hs]; rfl
        have hmap3 : (m.map Sk.cells)[k]? = some t.cells := by rw [List.getElem?_map, ht]; rfl
        obtain ⟨hcl, b, off, hA2, hcell⟩ := hel k _ hmap
        obtain ⟨_, b', off', hA3, hcell3⟩ := hel3 k _ hmap3
        have HC := Lib.hid hcell
        have HC3 := Lib.hid hcell3
        obtain rfl : A = some ⟨b, off, none⟩ := hA.trans hA2
        obtain rfl : A' = some ⟨b', off', none⟩ := hA'.trans hA3
        clear hel hel3 hmap hmap3 hs ht hA hA' hn2 hn3 hc2 hc3 hA2 hA3 hcell hcell3
        have hi1 : (k : Int) < (N : Int) := by omega
        obtain ⟨bb, hbb⟩ : ∃ bb, skEq s t = bb := ⟨_, rfl⟩
        have HB := Lib.hid hbb
        have hne : ((s.x == t.x && (s.y == t.y && s.r == t.r))) = bb := by rw [← hbb]; unfold skEq; rw [Bool.and_assoc]; rfl
        clear hbb
        go_wp2
        refine' Calm.wp_region_calm_lit [.inl _, .inl _, .inl _, .inl (.agg #[.int .i8 s.x, .int .i8 s.y, .int .i16 s.r]), .inl _, .inl _, .inl _, .inl (.agg #[.int .i8 t.x, .int .i8 t.y, .int .i16 t.r]), .inl (.bool (!(skEq s t)))] (by kernel_rfl) (by kernel_rfl) (by kernel_rfl) ?_
        rotate_left 6
        refine lex_move rfl rfl (by simp only [Act.eval, Array.getD_eq_getD_getElem?, List.getElem?_toArray, List.getElem?_cons_zero, List.getElem?_cons_succ, Option.getD_some]; rfl) rfl ?_
        (try simp only [Act.put, Act.eval, Array.getD_eq_getD_getElem?, List.setIfInBounds_toArray, List.set_cons_zero, List.set_cons_succ, List.getElem?_toArray, List.getElem?_cons_zero, List.getElem?_cons_succ, Option.getD_some, List.getElem_toArray, List.getElem_cons_zero, List.getElem_cons_succ])
        refine lex_move rfl rfl (by simp only [Act.eval, Array.getD_eq_getD_getElem?, List.getElem?_toArray, List.getElem?_cons_zero, List.getElem?_cons_succ, Option.getD_some]; rfl) rfl ?_
        (try simp only [Act.put, Act.eval, Array.getD_eq_getD_getElem?, List.setIfInBounds_toArray, List.set_cons_zero, List.set_cons_succ, List.getElem?_toArray, List.getElem?_cons_zero, List.getElem?_cons_succ, Option.getD_some, List.getElem_toArray, List.getElem_cons_zero, List.getElem_cons_succ])
        refine lex_pure rfl rfl (by intro w'; go_simp; (try go_bits); rfl) ?_
        (try simp only [Act.put, Act.eval, Array.getD_eq_getD_getElem?, List.setIfInBounds_toArray, List.set_cons_zero, List.set_cons_succ, List.getElem?_toArray, List.getElem?_cons_zero, List.getElem?_cons_succ, Option.getD_some, List.getElem_toArray, List.getElem_cons_zero, List.getElem_cons_succ])
        refine lex_loadA _ rfl rfl (by kernel_rfl) rfl (c := s.cells) HC.out rfl (by kernel_rfl) (by rfl) rfl ?_
        (try simp only [Act.put, Act.eval, Array.getD_eq_getD_getElem?, List.setIfInBounds_toArray, List.set_cons_zero, List.set_cons_succ, List.getElem?_toArray, List.getElem?_cons_zero, List.getElem?_cons_succ, Option.getD_some, List.getElem_toArray, List.getElem_cons_zero, List.getElem_cons_succ])
        refine lex_move rfl rfl (by simp only [Act.eval, Array.getD_eq_getD_getElem?, List.getElem?_toArray, List.getElem?_cons_zero, List.getElem?_cons_succ, Option.getD_some]; rfl) rfl ?_
        (try simp only [Act.put, Act.eval, Array.getD_eq_getD_getElem?, List.setIfInBounds_toArray, List.set_cons_zero, List.set_cons_succ, List.getElem?_toArray, List.getElem?_cons_zero, List.getElem?_cons_succ, Option.getD_some, List.getElem_toArray, List.getElem_cons_zero, List.getElem_cons_succ])
        refine lex_move rfl rfl (by simp only [Act.eval, Array.getD_eq_getD_getElem?, List.getElem?_toArray, List.getElem?_cons_zero, List.getElem?_cons_succ, Option.getD_some]; rfl) rfl ?_
        (try simp only [Act.put, Act.eval, Array.getD_eq_getD_getElem?, List.setIfInBounds_toArray, List.set_cons_zero, List.set_cons_succ, List.getElem?_toArray, List.getElem?_cons_zero, List.getElem?_cons_succ, Option.getD_some, List.getElem_toArray, List.getElem_cons_zero, List.getElem_cons_succ])
        refine lex_pure rfl rfl (by intro w'; go_simp; (try go_bits); rfl) ?_
        (try simp only [Act.put, Act.eval, Array.getD_eq_getD_getElem?, List.setIfInBounds_toArray, List.set_cons_zero, List.set_cons_succ, List.getElem?_toArray, List.getElem?_cons_zero, List.getElem?_cons_succ, Option.getD_some, List.getElem_toArray, List.getElem_cons_zero, List.getElem_cons_succ])
        refine lex_loadA _ rfl rfl (by kernel_rfl) rfl (c := t.cells) HC3.out rfl (by kernel_rfl) (by rfl) rfl ?_
        (try simp only [Act.put, Act.eval, Array.getD_eq_getD_getElem?, List.setIfInBounds_toArray, List.set_cons_zero, List.set_cons_succ, List.getElem?_toArray, List.getElem?_cons_zero, List.getElem?_cons_succ, Option.getD_some, List.getElem_toArray, List.getElem_cons_zero, List.getElem_cons_succ])
        refine lex_pure rfl rfl (by intro w'; go_simp; unfold skEq; (repeat' split) <;> simp [*]) ?_
        (try simp only [Act.put, Act.eval, Array.getD_eq_getD_getElem?, List.setIfInBounds_toArray, List.set_cons_zero, List.set_cons_succ, List.getElem?_toArray, List.getElem?_cons_zero, List.getElem?_cons_succ, Option.getD_some, List.getElem_toArray, List.getElem_cons_zero, List.getElem_cons_succ])
        intro wc hH
        replace hL := hL.ext hH.below
        clear hH
        cases bb with
        | false =>
          rw [HB.out]
          go_wp2
          go_ret
          exact ⟨by rw [sameSk_no HSK.out HTK.out HB.out]; rfl, hL.toBelow⟩
        | true =>
          rw [HB.out]
          go_wp2
          go_roundg (N - (k + 1))
          case measure => omega
          case rel => exact ⟨k + 1, by omega, rfl, by go_num, (fun j hj => by
            rcases Nat.lt_succ_iff_lt_or_eq.1 hj with h | h
            · exact HA.out j h
            · subst h; rw [skEq_get HSK.out HTK.out]; exact HB.out), hL⟩
      · go_wp2
        go_ret
        obtain rfl : k = N := by omega
        exact ⟨by rw [sameSk_yes (HN.out.trans HM.out.symm) (fun j hj => HA.out j (by have := HN.out; omega))]; rfl, hL.toBelow⟩
  · have hno : sameSk l m = false := by simp [sameSk, hlm]
    rw [hno]
    have hI : ¬ ((l.length : Int) = (m.length : Int)) := by omega
    go_enter Try.func19, Try.ntmps19
    go_wp2
    go_ret
    exact ⟨rfl, hL.toBelow⟩
set_option maxRecDepth 100000 in
set_option maxHeartbeats 400000 in
theorem equalStakes_any (v u : Value) (l m : List Sk) (w : World) (hl : Sl w 3 v (l.map Sk.cells)) (hr : Sl w 3 u (m.map Sk.cells)) :
    Calls Try.prog 57 #[v, u] w fun e w' => e = .returned (.bool (sameSk l m)) ∧ Below w.heap.size w w' := by
  have hL := Own.start w
  have HS := Lib.hid hl
  have HR := Lib.hid hr
  obtain ⟨A, cap, rfl, hc1, hm1, _⟩ := hl
  obtain ⟨A', cap', rfl, hc2, hm2, _⟩ := hr
  rw [List.length_map] at HS HR hc1 hc2 ⊢
  rw [List.length_map]
  unfold maxLen at hm1 hm2
  by_cases hlm : l.length = m.length
  · obtain ⟨N, hN⟩ : ∃ N, l.length = N := ⟨_, rfl⟩
    have HN := Lib.hid hN
    have HM := Lib.hid (hlm.symm.trans hN)
    rw [hlm.symm.trans hN] at HR hc2 ⊢
    rw [hN] at HS hc1 ⊢
    clear hN hlm hc2
    go_enter Try.func57, Try.ntmps57
    go_wp2
    go_loopg [13] N (fun n i wr => ∃ (k : Nat), k ≤ N ∧ n = N - k ∧ i = .int .i64 k ∧ Hid (∀ j, j < k → skEq (l.getD j skZ) (m.getD j skZ) = true) ∧ Own w.heap.size [] w wr [])
    case atStart => exact ⟨0, by omega, rfl, rfl, (fun j hj => by omega), hL⟩
    case round =>
      clear hL
      obtain ⟨k, hk, rfl, rfl, HA, hL⟩ := hrel
      by_cases hlt : k < N
      · have HS2 := HS.out.below hL.toBelow
        have HR2 := HR.out.below hL.toBelow
        obtain ⟨A2, cap2, hv2, _, _, hel⟩ := HS2
        obtain ⟨A3, cap3, hv3, _, _, hel3⟩ := HR2
        injection hv2 with hA hn2 hc2
        injection hv3 with hA' hn3 hc3
        obtain ⟨s, hs⟩ : ∃ s, l[k]? = some s := ⟨_, List.getElem?_eq_getElem (by have := HN.out; omega)⟩
        obtain ⟨t, ht⟩ : ∃ t, m[k]? = some t := ⟨_, List.getElem?_eq_getElem (by have := HM.out; omega)⟩
        have HSK := Lib.hid hs
        have HTK := Lib.hid ht
        have hmap : (l.map Sk.cells)[k]? = some s.cells := by rw [List.getElem?_map, hs]; rfl
        have hmap3 : (m.map Sk.cells)[k]? = some t.cells := by rw [List.getElem?_map, ht]; rfl
        obtain ⟨hcl, b, off, hA2, hcell⟩ := hel k _ hmap
        obtain ⟨_, b', off', hA3, hcell3⟩ := hel3 k _ hmap3
        have HC := Lib.hid hcell
        have HC3 := Lib.hid hcell3
        obtain rfl : A = some ⟨b, off, none⟩ := hA.trans hA2
        obtain rfl : A' = some ⟨b', off', none⟩ := hA'.trans hA3
        clear hel hel3 hmap hmap3 hs ht hA hA' hn2 hn3 hc2 hc3 hA2 hA3 hcell hcell3
        have hi1 : (k : Int) < (N : Int) := by omega
        obtain ⟨bb, hbb⟩ : ∃ bb, skEq s t = bb := ⟨_, rfl⟩
        have HB := Lib.hid hbb
        have hne : ((s.x == t.x && (s.y == t.y && s.r == t.r))) = bb := by rw [← hbb]; unfold skEq; rw [Bool.and_assoc]; rfl
        clear hbb
        go_wp2
        refine' Calm.wp_region_calm_lit [.inl _, .inl _, .inl _, .inl (.agg #[.int .i8 s.x, .int .i8 s.y, .int .i16 s.r]), .inl _, .inl _, .inl _, .inl (.agg #[.int .i8 t.x, .int .i8 t.y, .int .i16 t.r]), .inl (.bool (!(skEq s t)))] (by kernel_rfl) (by kernel_rfl) (by kernel_rfl) ?_
        rotate_left 6
        refine lex_move rfl rfl (by simp only [Act.eval, Array.getD_eq_getD_getElem?, List.getElem?_toArray, List.getElem?_cons_zero, List.getElem?_cons_succ, Option.getD_some]; rfl) rfl ?_
        (try simp only [Act.put, Act.eval, Array.getD_eq_getD_getElem?, List.setIfInBounds_toArray, List.set_cons_zero, List.set_cons_succ, List.getElem?_toArray, List.getElem?_cons_zero, List.getElem?_cons_succ, Option.getD_some, List.getElem_toArray, List.getElem_cons_zero, List.getElem_cons_succ])
        refine lex_move rfl rfl (by simp only [Act.eval, Array.getD_eq_getD_getElem?, List.getElem?_toArray, List.getElem?_cons_zero, List.getElem?_cons_succ, Option.getD_some]; rfl) rfl ?_
        (try simp only [Act.put, Act.eval, Array.getD_eq_getD_getElem?, List.setIfInBounds_toArray, List.set_cons_zero, List.set_cons_succ, List.getElem?_toArray, List.getElem?_cons_zero, List.getElem?_cons_succ, Option.getD_some, List.getElem_toArray, List.getElem_cons_zero, List.getElem_cons_succ])
        refine lex_pure rfl rfl (by intro w'; go_simp; (try go_bits); rfl) ?_
        (try simp only [Act.put, Act.eval, Array.getD_eq_getD_getElem?, List.setIfInBounds_toArray, List.set_cons_zero, List.set_cons_succ, List.getElem?_toArray, List.getElem?_cons_zero, List.getElem?_cons_succ, Option.getD_some, List.getElem_toArray, List.getElem_cons_zero, List.getElem_cons_succ])
        refine lex_loadA _ rfl rfl (by kernel_rfl) rfl (c := s.cells) HC.out rfl (by kernel_rfl) (by rfl) rfl ?_
        (try simp only [Act.put, Act.eval, Array.getD_eq_getD_getElem?, List.setIfInBounds_toArray, List.set_cons_zero, List.set_cons_succ, List.getElem?_toArray, List.getElem?_cons_zero, List.getElem?_cons_succ, Option.getD_some, List.getElem_toArray, List.getElem_cons_zero, List.getElem_cons_succ])
        refine lex_move rfl rfl (by simp only [Act.eval, Array.getD_eq_getD_getElem?, List.getElem?_toArray, List.getElem?_cons_zero, List.getElem?_cons_succ, Option.getD_some]; rfl) rfl ?_
        (try simp only [Act.put, Act.eval, Array.getD_eq_getD_getElem?, List.setIfInBounds_toArray, List.set_cons_zero, List.set_cons_succ, List.getElem?_toArray, List.getElem?_cons_zero, List.getElem?_cons_succ, Option.getD_some, List.getElem_toArray, List.getElem_cons_zero, List.getElem_cons_succ])
        refine lex_move rfl rfl (by simp only [Act.eval, Array.getD_eq_getD_getElem?, List.getElem?_toArray, List.getElem?_cons_zero, List.getElem?_cons_succ, Option.getD_some]; rfl) rfl ?_
        (try simp only [Act.put, Act.eval, Array.getD_eq_getD_getElem?, List.setIfInBounds_toArray, List.set_cons_zero, List.set_cons_succ, List.getElem?_toArray, List.getElem?_cons_zero, List.getElem?_cons_succ, Option.getD_some, List.getElem_toArray, List.getElem_cons_zero, List.getElem_cons_succ])
        refine lex_pure rfl rfl (by intro w'; go_simp; (try go_bits); rfl) ?_
        (try simp only [Act.put, Act.eval, Array.getD_eq_getD_getElem?, List.setIfInBounds_toArray, List.set_cons_zero, List.set_cons_succ, List.getElem?_toArray, List.getElem?_cons_zero, List.getElem?_cons_succ, Option.getD_some, List.getElem_toArray, List.getElem_cons_zero, List.getElem_cons_succ])
        refine lex_loadA _ rfl rfl (by kernel_rfl) rfl (c := t.cells) HC3.out rfl (by kernel_rfl) (by rfl) rfl ?_
        (try simp only [Act.put, Act.eval, Array.getD_eq_getD_getElem?, List.setIfInBounds_toArray, List.set_cons_zero, List.set_cons_succ, List.getElem?_toArray, List.getElem?_cons_zero, List.getElem?_cons_succ, Option.getD_some, List.getElem_toArray, List.getElem_cons_zero, List.getElem_cons_succ])
        refine lex_pure rfl rfl (by intro w'; go_simp; unfold skEq; (repeat' split) <;> simp [*]) ?_
        (try simp only [Act.put, Act.eval, Array.getD_eq_getD_getElem?, List.setIfInBounds_toArray, List.set_cons_zero, List.set_cons_succ, List.getElem?_toArray, List.getElem?_cons_zero, List.getElem?_cons_succ, Option.getD_some, List.getElem_toArray, List.getElem_cons_zero, List.getElem_cons_succ])
        intro wc hH
        replace hL := hL.ext hH.below
        clear hH
        cases bb with
        | false =>
          rw [HB.out]
          go_wp2
          go_ret
          exact ⟨by rw [sameSk_no HSK.out HTK.out HB.out]; rfl, hL.toBelow⟩
        | true =>
          rw [HB.out]
          go_wp2
          go_roundg (N - (k + 1))
          case measure => omega
          case rel => exact ⟨k + 1, by omega, rfl, by go_num, (fun j hj => by
            rcases Nat.lt_succ_iff_lt_or_eq.1 hj with h | h
            · exact HA.out j h
            · subst h; rw [skEq_get HSK.out HTK.out]; exact HB.out), hL⟩
      · go_wp2
        go_ret
        obtain rfl : k = N := by omega
        exact ⟨by rw [sameSk_yes (HN.out.trans HM.out.symm) (fun j hj => HA.out j (by have := HN.out; omega))]; rfl, hL.toBelow⟩
  · have hno : sameSk l m = false := by simp [sameSk, hlm]
    rw [hno]
    have hI : ¬ ((l.length : Int) = (m.length : Int)) := by omega
    go_enter Try.func57, Try.ntmps57
    go_wp2
    go_ret
    exact ⟨rfl, hL.toBelow⟩

set_option maxRecDepth 100000 in
theorem implSameStakes_any (v u : Value) (l m : List Sk) (w : World) (hl : Sl w 3 v (l.map Sk.cells)) (hr : Sl w 3 u (m.map Sk.cells)) :
    Calls Try.prog 21 #[v, u] w fun e w' => e = .returned (.bool (sameSk l m)) ∧ Below w.heap.size w w' := by
  go_enter Try.func21, Try.ntmps21
  go_wp2_with (first
    | (go_at_call 57; (with_reducible refine (equalStakes_any v u l m _ hl hr).mono ?_); rintro e w4 ⟨rfl, hb⟩))
  go_ret
  exact ⟨rfl, hb⟩
end Go.Proofs.Ytjflellnbafbaaa
