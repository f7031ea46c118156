import Derived.Test.YtpifngdmlmfnhaaQC25
/- Stakes: validity, both. No condition. -/
namespace Go.Proofs.Ytpifngdmlmfnhaa
set_option linter.unusedVariables false
set_option linter.unusedSimpArgs false
open Go.RowKit Mem
attribute [local irreducible] Calm.wpLex
theorem items_no {p : Nat → Int} {l : List Sk} {k : Nat} (hk : k < l.length) (h : itemOk p l k = false) : validStk p l = false := by
  unfold validStk; rw [all_range_no hk h]; simp
theorem item_split {p : Nat → Int} {l : List Sk} {k : Nat} {s : Sk} (hs : l[k]? = some s) : itemOk p l k = (stOk p s && !((l.take k).any fun t => atEq t s)) := by
  have : l.getD k skZ = s := by simp [List.getD_eq_getElem?_getD, hs]
  unfold itemOk sameAt; rw [this]

set_option maxRecDepth 100000 in
set_option maxHeartbeats 4000000 in
theorem implValidStakes_any (p : Nat → Int) (cs : Array Value) (v : Value) (l : List Sk) (w : World) (hp : Pv p cs) (hl : Sl w 3 v (l.map Sk.cells)) (hok : ∀ s ∈ l, s.ok) :
    Calls Try.prog 188 #[.agg cs, v] w fun e w' => e = .returned (.bool (validStk p l)) ∧ Below w.heap.size w w' := by
  have hL := Own.start w
  have HP := Lib.hid hp
  have HS := Lib.hid hl
  have HOK := Lib.hid hok
  have hsz := hp.size
  obtain ⟨A, cap, rfl, hc1, hm1, _⟩ := hl
  rw [List.length_map] at HS hc1 ⊢
  unfold maxLen at hm1
  clear hp hok
  obtain ⟨N, hN⟩ : ∃ N, l.length = N := ⟨_, rfl⟩
  have HN := Lib.hid hN
  rw [hN] at HS hc1 ⊢
  clear hN
  go_enter Try.func188, Try.ntmps188
  go_wp2_with (first
    | ((with_reducible refine gate_dst (N := 2) rfl ?_); refine wpl_box (cs := cs) hL rfl rfl rfl ?_; clear hL; intro g2 w2 hL))
  go_loopg [10] N (fun n i wr => ∃ (k : Nat), k ≤ N ∧ n = N - k ∧ i = .int .i64 k ∧ Hid (∀ j, j < k → itemOk p l j = true) ∧ Own w.heap.size [] w wr [(g2, 34, cs)])
  case atStart => exact ⟨0, by omega, rfl, rfl, (fun j hj => by omega), hL⟩
  case round =>
    clear hL
    obtain ⟨k, hk, rfl, rfl, HA, hL⟩ := hrel
    by_cases hlt : k < N
    · have HS2 := HS.out.below hL.toBelow
      have HT := Lib.hid ((HS.out.take k (by rw [List.length_map, HN.out]; omega)))
      rw [← List.map_take] at HT
      obtain ⟨A2, cap2, hv2, _, _, hel⟩ := HS2
      injection hv2 with hA hn2 hc2
      obtain ⟨s, hs⟩ : ∃ s, l[k]? = some s := ⟨_, List.getElem?_eq_getElem (by have := HN.out; omega)⟩
      have HSK := Lib.hid hs
      have hsok := HOK.out s (List.mem_of_getElem? hs)
      obtain ⟨o1, o2, o3, o4, o5, o6⟩ := hsok
      have hit := item_split (p := p) hs
      have hmap : (l.map Sk.cells)[k]? = some s.cells := by rw [List.getElem?_map, hs]; rfl
      obtain ⟨hcl, b, off, hA2, hcell⟩ := hel k _ hmap
      have HC := Lib.hid hcell
      obtain rfl : A = some ⟨b, off, none⟩ := hA.trans hA2
      clear hel hmap hs hA hn2 hc2 hA2 hcell
      have hi1 : (k : Int) < (N : Int) := by omega
      have hi0 : ¬ (k : Int) < 0 := by omega
      have hkc : (k : Int) ≤ (cap : Int) := by omega
      obtain ⟨c1, h1⟩ : ∃ c, ((l.take k).any fun t => atEq t s) = c := ⟨_, rfl⟩
      obtain ⟨c2, h2⟩ : ∃ c, isC (p 0) (p 1) s.x s.y = c := ⟨_, rfl⟩
      obtain ⟨c3, h3⟩ : ∃ c, inB s.r 0 200 = c := ⟨_, rfl⟩
      have hit2 : itemOk p l k = ((c2 && c3) && !c1) := by rw [hit]; unfold stOk; rw [h1, h2, h3]
      have HIT := Lib.hid hit2
      clear hit hit2
      cases c1 with
      | true =>
        have hv : validStk p l = false := items_no (by have := HN.out; omega) (HIT.out.trans (by simp))
        go_wp2_with (first
          | ((with_reducible refine gate_load (ty := 132) rfl ?_); refine wpl_loadA 3 rfl rfl (by kernel_rfl) rfl (c := s.cells) HC.out (by kernel_rfl) rfl ?_)
          | ((with_reducible refine gate_dst (N := 6) rfl ?_); refine wpl_alloc (z := .agg (#[.int .i8 0, .int .i8 0, .int .i16 0])) (cs := #[.int .i8 0, .int .i8 0, .int .i16 0]) hL rfl rfl (by kernel_rfl) rfl ?_; clear hL; intro g6 w6 hL)
          | ((with_reducible refine gate_store rfl ?_); refine wpl_storeW_0 (vs := #[.int .i8 s.x, .int .i8 s.y, .int .i16 s.r]) hL rfl rfl rfl rfl rfl (by kernel_rfl) (by simp [Value.oneCell']) rfl ?_; clear hL; intro w5 hL)
          | (go_at_call 238; (with_reducible refine (hasStk_any _ (l.take k) s _ _ (HT.out.below hL.toBelow) (hL.at_ (i := 0) rfl)).mono ?_); rintro e w4 ⟨rfl, hb⟩; rw [h1]; replace hL := hL.ext hb; clear hb))
        go_ret
        exact ⟨by first | (rw [hv]; rfl) | rfl, hL.toBelow⟩
      | false =>
        cases c2 with
        | false =>
          have hv : validStk p l = false := items_no (by have := HN.out; omega) (HIT.out.trans (by simp))
          go_wp2_with (first
            | ((with_reducible refine gate_load (ty := 132) rfl ?_); refine wpl_loadA 3 rfl rfl (by kernel_rfl) rfl (c := s.cells) HC.out (by kernel_rfl) rfl ?_)
            | ((with_reducible refine gate_dst (N := 6) rfl ?_); refine wpl_alloc (z := .agg (#[.int .i8 0, .int .i8 0, .int .i16 0])) (cs := #[.int .i8 0, .int .i8 0, .int .i16 0]) hL rfl rfl (by kernel_rfl) rfl ?_; clear hL; intro g6 w6 hL)
            | ((with_reducible refine gate_store rfl ?_); refine wpl_storeW_0 (vs := #[.int .i8 s.x, .int .i8 s.y, .int .i16 s.r]) hL rfl rfl rfl rfl rfl (by kernel_rfl) (by simp [Value.oneCell']) rfl ?_; clear hL; intro w5 hL)
            | (go_at_call 238; (with_reducible refine (hasStk_any _ (l.take k) s _ _ (HT.out.below hL.toBelow) (hL.at_ (i := 0) rfl)).mono ?_); rintro e w4 ⟨rfl, hb⟩; rw [h1]; replace hL := hL.ext hb; clear hb)
            | ((with_reducible refine gate_load rfl ?_); (with_reducible refine wpl_ungate ?_ ?_); first | (kernel_rfl) | skip)
            | ((with_reducible refine gate_load (ty := 34) rfl ?_); refine wpl_loadW_1 hL rfl rfl (by kernel_rfl) rfl hsz (by kernel_rfl) ?_)
            | ((with_reducible refine gate_load (ty := 88) rfl ?_); refine wpl_loadN_0 (off := 0) (vs := #[.int .i8 s.x, .int .i8 s.y]) hL 2 rfl rfl (by kernel_rfl) (by kernel_rfl) rfl (by simp) rfl ?_)
            | (go_at_call 158; (with_reducible refine (isCell_any p cs s.x s.y _ HP.out ⟨o1, o2⟩ ⟨o3, o4⟩).mono ?_); rintro e w4 ⟨rfl, hb⟩; rw [h2]; replace hL := hL.ext hb; clear hb))
          go_ret
          exact ⟨by first | (rw [hv]; rfl) | rfl, hL.toBelow⟩
        | true =>
          cases c3 with
          | false =>
            have hv : validStk p l = false := items_no (by have := HN.out; omega) (HIT.out.trans (by simp))
            go_wp2_with (first
              | ((with_reducible refine gate_load (ty := 132) rfl ?_); refine wpl_loadA 3 rfl rfl (by kernel_rfl) rfl (c := s.cells) HC.out (by kernel_rfl) rfl ?_)
              | ((with_reducible refine gate_dst (N := 6) rfl ?_); refine wpl_alloc (z := .agg (#[.int .i8 0, .int .i8 0, .int .i16 0])) (cs := #[.int .i8 0, .int .i8 0, .int .i16 0]) hL rfl rfl (by kernel_rfl) rfl ?_; clear hL; intro g6 w6 hL)
              | ((with_reducible refine gate_store rfl ?_); refine wpl_storeW_0 (vs := #[.int .i8 s.x, .int .i8 s.y, .int .i16 s.r]) hL rfl rfl rfl rfl rfl (by kernel_rfl) (by simp [Value.oneCell']) rfl ?_; clear hL; intro w5 hL)
              | (go_at_call 238; (with_reducible refine (hasStk_any _ (l.take k) s _ _ (HT.out.below hL.toBelow) (hL.at_ (i := 0) rfl)).mono ?_); rintro e w4 ⟨rfl, hb⟩; rw [h1]; replace hL := hL.ext hb; clear hb)
              | ((with_reducible refine gate_load rfl ?_); (with_reducible refine wpl_ungate ?_ ?_); first | (kernel_rfl) | skip)
              | ((with_reducible refine gate_load (ty := 34) rfl ?_); refine wpl_loadW_1 hL rfl rfl (by kernel_rfl) rfl hsz (by kernel_rfl) ?_)
              | ((with_reducible refine gate_load (ty := 88) rfl ?_); refine wpl_loadN_0 (off := 0) (vs := #[.int .i8 s.x, .int .i8 s.y]) hL 2 rfl rfl (by kernel_rfl) (by kernel_rfl) rfl (by simp) rfl ?_)
              | (go_at_call 158; (with_reducible refine (isCell_any p cs s.x s.y _ HP.out ⟨o1, o2⟩ ⟨o3, o4⟩).mono ?_); rintro e w4 ⟨rfl, hb⟩; rw [h2]; replace hL := hL.ext hb; clear hb)
              | ((with_reducible refine gate_load (ty := 23) rfl ?_); refine wpl_load_0 hL rfl rfl (by kernel_rfl) rfl rfl ?_)
              | (go_at_call 103; (with_reducible refine (within_any s.r 0 200 _).mono ?_); rintro e w4 ⟨rfl, rfl⟩; rw [h3]))
            go_ret
            exact ⟨by first | (rw [hv]; rfl) | rfl, hL.toBelow⟩
          | true =>
            go_wp2_with (first
              | ((with_reducible refine gate_load (ty := 132) rfl ?_); refine wpl_loadA 3 rfl rfl (by kernel_rfl) rfl (c := s.cells) HC.out (by kernel_rfl) rfl ?_)
              | ((with_reducible refine gate_dst (N := 6) rfl ?_); refine wpl_alloc (z := .agg (#[.int .i8 0, .int .i8 0, .int .i16 0])) (cs := #[.int .i8 0, .int .i8 0, .int .i16 0]) hL rfl rfl (by kernel_rfl) rfl ?_; clear hL; intro g6 w6 hL)
              | ((with_reducible refine gate_store rfl ?_); refine wpl_storeW_0 (vs := #[.int .i8 s.x, .int .i8 s.y, .int .i16 s.r]) hL rfl rfl rfl rfl rfl (by kernel_rfl) (by simp [Value.oneCell']) rfl ?_; clear hL; intro w5 hL)
              | (go_at_call 238; (with_reducible refine (hasStk_any _ (l.take k) s _ _ (HT.out.below hL.toBelow) (hL.at_ (i := 0) rfl)).mono ?_); rintro e w4 ⟨rfl, hb⟩; rw [h1]; replace hL := hL.ext hb; clear hb)
              | ((with_reducible refine gate_load rfl ?_); (with_reducible refine wpl_ungate ?_ ?_); first | (kernel_rfl) | skip)
              | ((with_reducible refine gate_load (ty := 34) rfl ?_); refine wpl_loadW_1 hL rfl rfl (by kernel_rfl) rfl hsz (by kernel_rfl) ?_)
              | ((with_reducible refine gate_load (ty := 88) rfl ?_); refine wpl_loadN_0 (off := 0) (vs := #[.int .i8 s.x, .int .i8 s.y]) hL 2 rfl rfl (by kernel_rfl) (by kernel_rfl) rfl (by simp) rfl ?_)
              | (go_at_call 158; (with_reducible refine (isCell_any p cs s.x s.y _ HP.out ⟨o1, o2⟩ ⟨o3, o4⟩).mono ?_); rintro e w4 ⟨rfl, hb⟩; rw [h2]; replace hL := hL.ext hb; clear hb)
              | ((with_reducible refine gate_load (ty := 23) rfl ?_); refine wpl_load_0 hL rfl rfl (by kernel_rfl) rfl rfl ?_)
              | (go_at_call 103; (with_reducible refine (within_any s.r 0 200 _).mono ?_); rintro e w4 ⟨rfl, rfl⟩; rw [h3]))
            have hL := hL.tail
            go_roundg (N - (k + 1))
            case measure => omega
            case rel => exact ⟨k + 1, by omega, rfl, by go_num, upTo_step HA.out (HIT.out.trans (by simp)), hL⟩
    · obtain rfl : k = N := by omega
      have hall : (List.range l.length).all (itemOk p l) = true := all_range.2 (fun j hj => HA.out j (by have := HN.out; omega))
      have hv2 : validStk p l = (validP p && decide ((k : Int) ≤ 12)) := by
        unfold validStk
        rw [hall, Bool.and_true]
        have := HN.out
        congr 1
        simp; omega
      have HV2 := Lib.hid hv2
      clear hv2
      cases hv3 : validP p with
      | false =>
        go_wp2_with (first
          | ((with_reducible refine gate_load (ty := 34) rfl ?_); refine wpl_loadW_0 hL rfl rfl (by kernel_rfl) rfl hsz (by kernel_rfl) ?_)
          | (go_at_call 150; (with_reducible refine (implValidPasture_any p cs _ HP.out).mono ?_); rintro e w4 ⟨rfl, hb⟩; rw [hv3]; replace hL := hL.ext hb; clear hb))
        go_ret
        exact ⟨by rw [HV2.out, hv3]; rfl, hL.toBelow⟩
      | true =>
        go_wp2_with (first
          | ((with_reducible refine gate_load (ty := 34) rfl ?_); refine wpl_loadW_0 hL rfl rfl (by kernel_rfl) rfl hsz (by kernel_rfl) ?_)
          | (go_at_call 150; (with_reducible refine (implValidPasture_any p cs _ HP.out).mono ?_); rintro e w4 ⟨rfl, hb⟩; rw [hv3]; replace hL := hL.ext hb; clear hb))
        go_ret
        exact ⟨by rw [HV2.out, hv3]; rfl, hL.toBelow⟩
set_option maxRecDepth 100000 in
theorem l05Reach_any (n : Int) (w : World) : Calls Try.prog 125 #[.int .i64 n] w fun e w' => e = .returned (.bool (inB n 0 200)) ∧ w = w' := by
  go_enter Try.func125, Try.ntmps125
  go_wp2_with (first
    | (go_at_call 92; (with_reducible refine (l00In_any n 0 200 _).mono ?_); rintro e w4 ⟨rfl, rfl⟩))
  go_ret
  exact ⟨rfl, rfl⟩
set_option maxRecDepth 100000 in
set_option maxHeartbeats 1000000 in
theorem l05Stake_any (p : Nat → Int) (cs : Array Value) (T : TypeId) (g : Nat) (s : Sk) (w : World) (hp : Pv p cs) (hg : w.heap[g]? = some (.cells cs T (0, 0))) (ha : p 0 ≤ 10) (hb : p 1 ≤ 10) (hs : s.ok) :
    Calls Try.prog 237 #[.pointer (some ⟨g, 0, none⟩), .agg #[.int .i8 s.x, .int .i8 s.y, .int .i16 s.r]] w fun e w' => e = .returned (.bool (stOk p s)) ∧ Below w.heap.size w w' := by
  have hL := Own.start w
  obtain ⟨o1, o2, o3, o4, o5, o6⟩ := hs
  have HW := Lib.hid hg
  clear hg
  unfold stOk
  cases h2 : isC (p 0) (p 1) s.x s.y with
  | false =>
    rw [Bool.false_and]
    go_enter Try.func237, Try.ntmps237
    go_wp2_with (first
      | ((with_reducible refine gate_dst (N := 3) rfl ?_); refine wpl_box (cs := #[.int .i8 s.x, .int .i8 s.y, .int .i16 s.r]) hL rfl rfl rfl ?_; clear hL; intro g3 w3 hL)
      | ((with_reducible refine gate_load (ty := 88) rfl ?_); refine wpl_loadN_0 (off := 0) (vs := #[.int .i8 s.x, .int .i8 s.y]) hL 2 rfl rfl (by kernel_rfl) (by kernel_rfl) rfl (by simp) rfl ?_)
      | (go_at_call 201; (with_reducible refine (l01Is_any p cs T g s.x s.y _ hp (block_below HW.out hL.toBelow) ha hb ⟨o1, o2⟩ ⟨o3, o4⟩).mono ?_); rintro e w4 ⟨rfl, hb⟩; rw [h2]; replace hL := hL.ext hb; clear hb))
    go_ret
    exact ⟨rfl, hL.toBelow⟩
  | true =>
    rw [Bool.true_and]
    go_enter Try.func237, Try.ntmps237
    go_wp2_with (first
      | ((with_reducible refine gate_dst (N := 3) rfl ?_); refine wpl_box (cs := #[.int .i8 s.x, .int .i8 s.y, .int .i16 s.r]) hL rfl rfl rfl ?_; clear hL; intro g3 w3 hL)
      | ((with_reducible refine gate_load rfl ?_); (with_reducible refine wpl_ungate ?_ ?_); first | (kernel_rfl) | skip)
      | ((with_reducible refine gate_load (ty := 88) rfl ?_); refine wpl_loadN_0 (off := 0) (vs := #[.int .i8 s.x, .int .i8 s.y]) hL 2 rfl rfl (by kernel_rfl) (by kernel_rfl) rfl (by simp) rfl ?_)
      | ((with_reducible refine gate_load (ty := 23) rfl ?_); refine wpl_load_0 hL rfl rfl (by kernel_rfl) rfl rfl ?_)
      | (go_at_call 125; (with_reducible refine (l05Reach_any s.r _).mono ?_); rintro e w4 ⟨rfl, rfl⟩)
      | (go_at_call 201; (with_reducible refine (l01Is_any p cs T g s.x s.y _ hp (block_below HW.out hL.toBelow) ha hb ⟨o1, o2⟩ ⟨o3, o4⟩).mono ?_); rintro e w4 ⟨rfl, hb⟩; rw [h2]; replace hL := hL.ext hb; clear hb))
    go_ret
    exact ⟨rfl, hL.toBelow⟩
theorem valid_small {p : Nat → Int} (h : validP p = true) : p 0 ≤ 10 ∧ p 1 ≤ 10 := by
  unfold validP inB at h
  simp at h
  omega
theorem any_take_no {l : List Sk} {s : Sk} {k : Nat} (hk : k ≤ l.length) (h : ∀ j, j < k → atEq (l.getD j skZ) s = false) : ((l.take k).any fun t => atEq t s) = false := by
  rw [List.any_eq_false]
  intro t ht
  obtain ⟨j, hj⟩ := List.mem_iff_getElem?.1 ht
  rw [List.getElem?_take] at hj
  split at hj
  · rename_i hjk
    have := h j hjk
    simp [List.getD_eq_getElem?_getD, hj] at this
    simp [this]
  · cases hj
theorem any_take_yes {l : List Sk} {s t : Sk} {j k : Nat} (hk : j < k) (hj : l[j]? = some t) (h : atEq t s = true) : ((l.take k).any fun t => atEq t s) = true :=
  List.any_eq_true.2 ⟨t, List.mem_of_getElem? (by rw [List.getElem?_take, if_pos hk]; exact hj), h⟩
set_option maxRecDepth 100000 in
set_option maxHeartbeats 4000000 in
theorem l05Ok_any (p : Nat → Int) (cs : Array Value) (T : TypeId) (g : Nat) (v : Value) (l : List Sk) (w : World) (hp : Pv p cs) (hg : w.heap[g]? = some (.cells cs T (0, 0))) (hl : Sl w 3 v (l.map Sk.cells)) (hok : ∀ s ∈ l, s.ok) :
    Calls Try.prog 185 #[.pointer (some ⟨g, 0, none⟩), v] w fun e w' => e = .returned (.bool (validStk p l)) ∧ Below w.heap.size w w' := by
  have hL := Own.start w
  have HP := Lib.hid hp
  have HW := Lib.hid hg
  have HS := Lib.hid hl
  have HOK := Lib.hid hok
  obtain ⟨A, cap, rfl, hc1, hm1, _⟩ := hl
  rw [List.length_map] at HS hc1 ⊢
  unfold maxLen at hm1
  clear hp hok hg
  obtain ⟨N, hN⟩ : ∃ N, l.length = N := ⟨_, rfl⟩
  have HN := Lib.hid hN
  rw [hN] at HS hc1 ⊢
  clear hN
  cases hvp : validP p with
  | false =>
    have hv : validStk p l = false := by unfold validStk; rw [hvp]; rfl
    go_enter Try.func185, Try.ntmps185
    go_wp2_with (first
      | (go_at_call 148; (with_reducible refine (l01Ok_any p cs T g _ HP.out (block_below HW.out hL.toBelow)).mono ?_); rintro e w4 ⟨rfl, hb⟩; rw [hvp]; replace hL := hL.ext hb; clear hb))
    go_ret
    exact ⟨by first | (rw [hv]; rfl) | rfl, hL.toBelow⟩
  | true =>
  obtain ⟨ha, hb⟩ := valid_small hvp
  have HVP := Lib.hid hvp
  by_cases h12 : (N : Int) ≤ 12
  case neg =>
    have hv : validStk p l = false := by
      unfold validStk
      have := HN.out
      have : decide (l.length ≤ 12) = false := by simp; omega
      rw [this, Bool.false_and, Bool.and_false]
    go_enter Try.func185, Try.ntmps185
    go_wp2_with (first
      | (go_at_call 148; (with_reducible refine (l01Ok_any p cs T g _ HP.out (block_below HW.out hL.toBelow)).mono ?_); rintro e w4 ⟨rfl, hb⟩; rw [hvp]; replace hL := hL.ext hb; clear hb))
    go_ret
    exact ⟨by first | (rw [hv]; rfl) | rfl, hL.toBelow⟩
  go_enter Try.func185, Try.ntmps185
  go_wp2_with (first
    | (go_at_call 148; (with_reducible refine (l01Ok_any p cs T g _ HP.out (block_below HW.out hL.toBelow)).mono ?_); rintro e w4 ⟨rfl, hb⟩; rw [hvp]; replace hL := hL.ext hb; clear hb))
  go_loopg [5] N (fun n i wr => ∃ (k : Nat), k ≤ N ∧ n = N - k ∧ i = .int .i64 k ∧ Hid (∀ j, j < k → itemOk p l j = true) ∧ Own w.heap.size [] w wr [])
  case atStart => exact ⟨0, by omega, rfl, rfl, (fun j hj => by omega), hL⟩
  case round =>
    clear hL
    obtain ⟨k, hk, rfl, rfl, HA, hL⟩ := hrel
    by_cases hlt : k < N
    · have HS2 := HS.out.below hL.toBelow
      obtain ⟨A2, cap2, hv2, _, _, hel⟩ := HS2
      injection hv2 with hA hn2 hc2
      obtain ⟨s, hs⟩ : ∃ s, l[k]? = some s := ⟨_, List.getElem?_eq_getElem (by have := HN.out; omega)⟩
      have HSK := Lib.hid hs
      have HSO := Lib.hid (HOK.out s (List.mem_of_getElem? hs))
      have HIT := Lib.hid (item_split (p := p) hs)
      have hmap : (l.map Sk.cells)[k]? = some s.cells := by rw [List.getElem?_map, hs]; rfl
      obtain ⟨hcl, b, off, hA2, hcell⟩ := hel k _ hmap
      have HC := Lib.hid hcell
      obtain rfl : A = some ⟨b, off, none⟩ := hA.trans hA2
      clear hel hmap hs hA hn2 hc2 hA2 hcell
      have hi1 : (k : Int) < (N : Int) := by omega
      obtain ⟨c2, h2⟩ : ∃ c, stOk p s = c := ⟨_, rfl⟩
      have H2 := Lib.hid h2
      cases c2 with
      | false =>
        have hv : validStk p l = false := items_no (by have := HN.out; omega) (HIT.out.trans (by rw [H2.out]; simp))
        go_wp2_with (first
          | ((with_reducible refine gate_load (ty := 132) rfl ?_); refine wpl_loadA 3 rfl rfl (by kernel_rfl) rfl (c := s.cells) HC.out (by kernel_rfl) rfl ?_)
          | (go_at_call 237; (refine (l05Stake_any p cs T g s _ HP.out (block_below HW.out hL.toBelow) ha hb HSO.out).mono ?_); rintro e w4 ⟨rfl, hb⟩; rw [h2]; replace hL := hL.ext hb; clear hb))
        go_ret
        exact ⟨by first | (rw [hv]; rfl) | rfl, hL.toBelow⟩
      | true =>
        go_wp2_with (first
          | ((with_reducible refine gate_load (ty := 132) rfl ?_); refine wpl_loadA 3 rfl rfl (by kernel_rfl) rfl (c := s.cells) HC.out (by kernel_rfl) rfl ?_)
          | (go_at_call 237; (refine (l05Stake_any p cs T g s _ HP.out (block_below HW.out hL.toBelow) ha hb HSO.out).mono ?_); rintro e w4 ⟨rfl, hb⟩; rw [h2]; replace hL := hL.ext hb; clear hb))
        go_loopg [6] k (fun n i wi => ∃ (m : Nat), m ≤ k ∧ n = k - m ∧ i = .int .i64 m ∧ Hid (∀ j, j < m → atEq (l.getD j skZ) s = false) ∧ Own w.heap.size [] w wi [])
        case atStart => exact ⟨0, by omega, rfl, rfl, (fun j hj => by omega), hL⟩
        case round =>
          clear hL
          obtain ⟨m, hm, rfl, rfl, HM, hL⟩ := hrel
          by_cases hlm : m < k
          · have HS3 := HS.out.below hL.toBelow
            obtain ⟨A3, cap3, hv3, _, _, hel3⟩ := HS3
            injection hv3 with hA' hn3 hc3
            obtain ⟨t, ht⟩ : ∃ t, l[m]? = some t := ⟨_, List.getElem?_eq_getElem (by have := HN.out; omega)⟩
            have HTK := Lib.hid ht
            have hmap3 : (l.map Sk.cells)[m]? = some t.cells := by rw [List.getElem?_map, ht]; rfl
            have hmap : (l.map Sk.cells)[k]? = some s.cells := by rw [List.getElem?_map, HSK.out]; rfl
            obtain ⟨_, b', off', hA3, hcell3⟩ := hel3 m _ hmap3
            obtain ⟨_, b2, off2, hA4, hcell4⟩ := hel3 k _ hmap
            injection (hA'.trans hA3) with hq
            injection hq with hb1 ho1 _
            subst hb1; subst ho1
            injection (hA'.trans hA4) with hq
            injection hq with hb1 ho1 _
            subst hb1; subst ho1
            have HC3 := Lib.hid hcell3
            have HC4 := Lib.hid hcell4
            clear hel3 hmap3 hmap ht hA' hn3 hc3 hA3 hA4 hcell3 hcell4
            have hi2 : (m : Int) < (k : Int) := by omega
            have hi3 : (m : Int) < (N : Int) := by omega
            obtain ⟨bb, hbb⟩ : ∃ bb, atEq t s = bb := ⟨_, rfl⟩
            have HB := Lib.hid hbb
            clear hbb
            have HC5 : Hid (∀ (j : Nat) (u : Value), (Sp.mk t.x t.y).cells[j]? = some u → wr.cell? ⟨b, off + m * 3 + j, none⟩ = some u) := fun j u hu => HC3.out j u (by
              rcases j with _ | _ | j
              · exact hu
              · exact hu
              · cases hu)
            have HC6 : Hid (∀ (j : Nat) (u : Value), (Sp.mk s.x s.y).cells[j]? = some u → wr.cell? ⟨b, off + k * 3 + j, none⟩ = some u) := fun j u hu => HC4.out j u (by
              rcases j with _ | _ | j
              · exact hu
              · exact hu
              · cases hu)
            go_wp2
            refine' Calm.wp_region_calm_lit [.inl _, .inl _, .inl _, .inl _, .inl (.agg #[.int .i8 t.x, .int .i8 t.y]), .inl _, .inl _, .inl _, .inl _, .inl (.agg #[.int .i8 s.x, .int .i8 s.y]), .inl (.bool (atEq t s))] (by kernel_rfl) (by kernel_rfl) (by kernel_rfl) ?_
            rotate_left 8
            refine lex_move rfl rfl (by simp only [Act.eval, Array.getD_eq_getD_getElem?, List.getElem?_toArray, List.getElem?_cons_zero, List.getElem?_cons_succ, Option.getD_some]; rfl) rfl ?_
            (try simp only [Act.put, Act.eval, Array.getD_eq_getD_getElem?, List.setIfInBounds_toArray, List.set_cons_zero, List.set_cons_succ, List.getElem?_toArray, List.getElem?_cons_zero, List.getElem?_cons_succ, Option.getD_some, List.getElem_toArray, List.getElem_cons_zero, List.getElem_cons_succ])
            refine lex_move rfl rfl (by simp only [Act.eval, Array.getD_eq_getD_getElem?, List.getElem?_toArray, List.getElem?_cons_zero, List.getElem?_cons_succ, Option.getD_some]; rfl) rfl ?_
            (try simp only [Act.put, Act.eval, Array.getD_eq_getD_getElem?, List.setIfInBounds_toArray, List.set_cons_zero, List.set_cons_succ, List.getElem?_toArray, List.getElem?_cons_zero, List.getElem?_cons_succ, Option.getD_some, List.getElem_toArray, List.getElem_cons_zero, List.getElem_cons_succ])
            refine lex_pure rfl rfl (by intro w'; go_simp; (try go_bits); rfl) ?_
            (try simp only [Act.put, Act.eval, Array.getD_eq_getD_getElem?, List.setIfInBounds_toArray, List.set_cons_zero, List.set_cons_succ, List.getElem?_toArray, List.getElem?_cons_zero, List.getElem?_cons_succ, Option.getD_some, List.getElem_toArray, List.getElem_cons_zero, List.getElem_cons_succ])
            refine lex_pure rfl rfl (by intro w'; go_simp; (try go_bits); rfl) ?_
            (try simp only [Act.put, Act.eval, Array.getD_eq_getD_getElem?, List.setIfInBounds_toArray, List.set_cons_zero, List.set_cons_succ, List.getElem?_toArray, List.getElem?_cons_zero, List.getElem?_cons_succ, Option.getD_some, List.getElem_toArray, List.getElem_cons_zero, List.getElem_cons_succ])
            refine lex_loadA _ rfl rfl (by kernel_rfl) rfl (c := (Sp.mk t.x t.y).cells) HC5.out rfl (by kernel_rfl) (by rfl) rfl ?_
            (try simp only [Act.put, Act.eval, Array.getD_eq_getD_getElem?, List.setIfInBounds_toArray, List.set_cons_zero, List.set_cons_succ, List.getElem?_toArray, List.getElem?_cons_zero, List.getElem?_cons_succ, Option.getD_some, List.getElem_toArray, List.getElem_cons_zero, List.getElem_cons_succ])
            refine lex_move rfl rfl (by simp only [Act.eval, Array.getD_eq_getD_getElem?, List.getElem?_toArray, List.getElem?_cons_zero, List.getElem?_cons_succ, Option.getD_some]; rfl) rfl ?_
            (try simp only [Act.put, Act.eval, Array.getD_eq_getD_getElem?, List.setIfInBounds_toArray, List.set_cons_zero, List.set_cons_succ, List.getElem?_toArray, List.getElem?_cons_zero, List.getElem?_cons_succ, Option.getD_some, List.getElem_toArray, List.getElem_cons_zero, List.getElem_cons_succ])
            refine lex_move rfl rfl (by simp only [Act.eval, Array.getD_eq_getD_getElem?, List.getElem?_toArray, List.getElem?_cons_zero, List.getElem?_cons_succ, Option.getD_some]; rfl) rfl ?_
            (try simp only [Act.put, Act.eval, Array.getD_eq_getD_getElem?, List.setIfInBounds_toArray, List.set_cons_zero, List.set_cons_succ, List.getElem?_toArray, List.getElem?_cons_zero, List.getElem?_cons_succ, Option.getD_some, List.getElem_toArray, List.getElem_cons_zero, List.getElem_cons_succ])
            refine lex_pure rfl rfl (by intro w'; go_simp; (try go_bits); rfl) ?_
            (try simp only [Act.put, Act.eval, Array.getD_eq_getD_getElem?, List.setIfInBounds_toArray, List.set_cons_zero, List.set_cons_succ, List.getElem?_toArray, List.getElem?_cons_zero, List.getElem?_cons_succ, Option.getD_some, List.getElem_toArray, List.getElem_cons_zero, List.getElem_cons_succ])
            refine lex_pure rfl rfl (by intro w'; go_simp; (try go_bits); rfl) ?_
            (try simp only [Act.put, Act.eval, Array.getD_eq_getD_getElem?, List.setIfInBounds_toArray, List.set_cons_zero, List.set_cons_succ, List.getElem?_toArray, List.getElem?_cons_zero, List.getElem?_cons_succ, Option.getD_some, List.getElem_toArray, List.getElem_cons_zero, List.getElem_cons_succ])
            refine lex_loadA _ rfl rfl (by kernel_rfl) rfl (c := (Sp.mk s.x s.y).cells) HC6.out rfl (by kernel_rfl) (by rfl) rfl ?_
            (try simp only [Act.put, Act.eval, Array.getD_eq_getD_getElem?, List.setIfInBounds_toArray, List.set_cons_zero, List.set_cons_succ, List.getElem?_toArray, List.getElem?_cons_zero, List.getElem?_cons_succ, Option.getD_some, List.getElem_toArray, List.getElem_cons_zero, List.getElem_cons_succ])
            refine lex_pure rfl rfl (by intro w'; go_simp; unfold atEq; (repeat' split) <;> simp [*]) ?_
            (try simp only [Act.put, Act.eval, Array.getD_eq_getD_getElem?, List.setIfInBounds_toArray, List.set_cons_zero, List.set_cons_succ, List.getElem?_toArray, List.getElem?_cons_zero, List.getElem?_cons_succ, Option.getD_some, List.getElem_toArray, List.getElem_cons_zero, List.getElem_cons_succ])
            refine lex_nil ?_
            intro wc hH
            replace hL := hL.ext hH.below
            clear hH
            cases bb with
            | true =>
              have hv : validStk p l = false := items_no (by have := HN.out; omega) (HIT.out.trans (by rw [any_take_yes hlm HTK.out HB.out]; simp))
              rw [HB.out]
              go_wp2
              go_ret
              exact ⟨by first | (rw [hv]; rfl) | rfl, hL.toBelow⟩
            | false =>
              rw [HB.out]
              go_wp2
              go_roundg (k - (m + 1))
              case measure => omega
              case rel => exact ⟨m + 1, by omega, rfl, by go_num, upTo_step HM.out (by
                have : l.getD m skZ = t := by simp [List.getD_eq_getElem?_getD, HTK.out]
                rw [this]; exact HB.out), hL⟩
          · go_wp2
            go_roundg (N - (k + 1))
            case measure => omega
            case rel => exact ⟨k + 1, by omega, rfl, by go_num, upTo_step HA.out (HIT.out.trans (by
                rw [H2.out, any_take_no (by have := HN.out; omega) (fun j hj => HM.out j (by omega))]; rfl)), hL⟩
    · obtain rfl : k = N := by omega
      have hall : (List.range l.length).all (itemOk p l) = true := all_range.2 (fun j hj => HA.out j (by have := HN.out; omega))
      have hv2 : validStk p l = true := by
        unfold validStk
        rw [hall, HVP.out]
        have := HN.out
        simp; omega
      have HV2 := Lib.hid hv2
      clear hv2
      go_wp2
      go_ret
      exact ⟨by rw [HV2.out]; rfl, hL.toBelow⟩
end Go.Proofs.Ytpifngdmlmfnhaa
