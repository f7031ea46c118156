import Derived.Test.YtpifngdmlmfnhaaQB39
/- Goats: validity, the program's and the reference's. No condition. -/
namespace Go.Proofs.Ytpifngdmlmfnhaa
set_option linter.unusedVariables false
set_option linter.unusedSimpArgs false
open Go.RowKit Mem
attribute [local irreducible] Calm.wpLex
def validGt (p : Nat → Int) (l : List Gt) : Bool := validP p && (decide (l.length ≤ 20) && l.all (goatOk p))
theorem goatClosure_any (p : Nat → Int) (cs : Array Value) (gp : Nat) (g : Gt) (w : World) (hp : Pv p cs) (hw : w.heap[gp]? = some (.cells cs 34 (0, 0))) (hg : g.ok) :
    Calls Try.prog 178 #[.agg g.cells.toArray, .pointer (some ⟨gp, 0, none⟩)] w fun e w' => e = .returned (.bool (!(goatOk p g))) ∧ Below w.heap.size w w' :=
  goatClosure_raw p cs gp g.x g.y g.u g.v g.rope g.eats g.likes w hp hw hg
theorem not_all {l : List Gt} {f : Gt → Bool} : (l.any fun g => !f g) = !(l.all f) := by
  induction l with
  | nil => rfl
  | cons a l ih => simp [List.any_cons, List.all_cons, ih]
set_option maxRecDepth 100000 in
set_option maxHeartbeats 1000000 in
theorem idxGt_any (v : Value) (l : List Gt) (p : Nat → Int) (cs : Array Value) (gp : Nat) (w : World) (hl : Sl w 7 v (l.map Gt.cells)) (hp : Pv p cs) (hg : w.heap[gp]? = some (.cells cs 34 (0, 0))) (hok : ∀ g ∈ l, g.ok) :
    Calls Try.prog 236 #[v, .func (.func 178) #[] #[.pointer (some ⟨gp, 0, none⟩)]] w fun e w' => ∃ r, e = .returned (.int .i64 r) ∧ (decide (0 ≤ r) = l.any fun g => !goatOk p g) ∧ Below w.heap.size w w' := by
  have hL := Own.start w
  have HS := Lib.hid hl
  have HW := Lib.hid hg
  have HOK := Lib.hid hok
  have HP := Lib.hid hp
  obtain ⟨A, cap, rfl, hc1, hm1, _⟩ := hl
  rw [List.length_map] at HS hc1 ⊢
  unfold maxLen at hm1
  obtain ⟨N, hN⟩ : ∃ N, l.length = N := ⟨_, rfl⟩
  have HN := Lib.hid hN
  rw [hN] at HS hc1 ⊢
  clear hN hg hok hp
  go_enter Try.func236, Try.ntmps236
  go_wp2
  go_loopg [8] N (fun n i wr => ∃ (k : Nat), k ≤ N ∧ n = N - k ∧ i = .int .i64 k ∧ Hid (∀ j g, j < k → l[j]? = some g → goatOk p g = true) ∧ Own w.heap.size [] w wr [])
  case atStart => exact ⟨0, by omega, rfl, rfl, (fun j g hj => by omega), hL⟩
  case round =>
    clear hL
    obtain ⟨k, hk, rfl, rfl, HA, hL⟩ := hrel
    by_cases hlt : k < N
    · have HS2 := HS.out.below hL.toBelow
      have HW2 := Lib.hid (block_below HW.out hL.toBelow)
      obtain ⟨A2, cap2, hv2, _, _, hel⟩ := HS2
      injection hv2 with hA hn2 hc2
      obtain ⟨s, hs⟩ : ∃ s, l[k]? = some s := ⟨_, List.getElem?_eq_getElem (by have := HN.out; omega)⟩
      have HSK := Lib.hid hs
      have HSO := Lib.hid (HOK.out s (List.mem_of_getElem? hs))
      have hmap : (l.map Gt.cells)[k]? = some s.cells := by rw [List.getElem?_map, hs]; rfl
      obtain ⟨hcl, b, off, hA2, hcell⟩ := hel k _ hmap
      have HC := Lib.hid hcell
      obtain rfl : A = some ⟨b, off, none⟩ := hA.trans hA2
      clear hel hmap hs hA hn2 hc2 hA2 hcell
      have hi1 : (k : Int) < (N : Int) := by omega
      obtain ⟨bb, hbb⟩ : ∃ bb, goatOk p s = bb := ⟨_, rfl⟩
      have HB := Lib.hid hbb
      cases bb with
      | true =>
        go_wp2_with (first
          | ((with_reducible refine gate_load rfl ?_); refine wpl_loadA 7 rfl rfl (by kernel_rfl) rfl (c := s.cells) HC.out (by kernel_rfl) rfl ?_)
          | (go_at_call 178; (with_reducible refine (goatClosure_any p cs gp s _ HP.out HW2.out HSO.out).mono ?_); rintro e w4 ⟨rfl, hb⟩; rw [hbb]; replace hL := hL.ext hb; clear hb))
        go_roundg (N - (k + 1))
        case measure => omega
        case rel => exact ⟨k + 1, by omega, rfl, by go_num, (fun j g hj hg => by
          rcases Nat.lt_succ_iff_lt_or_eq.1 hj with e | e
          · exact HA.out j g e hg
          · subst e; have := HSK.out; rw [hg] at this; injection this with this; subst this; exact HB.out), hL⟩
      | false =>
        go_wp2_with (first
          | ((with_reducible refine gate_load rfl ?_); refine wpl_loadA 7 rfl rfl (by kernel_rfl) rfl (c := s.cells) HC.out (by kernel_rfl) rfl ?_)
          | (go_at_call 178; (with_reducible refine (goatClosure_any p cs gp s _ HP.out HW2.out HSO.out).mono ?_); rintro e w4 ⟨rfl, hb⟩; rw [hbb]; replace hL := hL.ext hb; clear hb))
        go_ret
        refine ⟨k, rfl, ?_, hL.toBelow⟩
        have : (l.any fun g => !goatOk p g) = true := List.any_eq_true.2 ⟨s, List.mem_of_getElem? HSK.out, by rw [HB.out]; rfl⟩
        rw [this]; simp
    · go_wp2
      go_ret
      refine ⟨-1, rfl, ?_, hL.toBelow⟩
      have : (l.any fun g => !goatOk p g) = false := by
        rw [List.any_eq_false]
        intro s hs
        obtain ⟨j, hj⟩ := List.mem_iff_getElem?.1 hs
        have hjl : j < l.length := (List.getElem?_eq_some_iff.1 hj).1
        rw [HA.out j s (by have := HN.out; omega) hj]; simp
      rw [this]; simp
set_option maxRecDepth 100000 in
theorem hasGt_any (v : Value) (l : List Gt) (p : Nat → Int) (cs : Array Value) (gp : Nat) (w : World) (hl : Sl w 7 v (l.map Gt.cells)) (hp : Pv p cs) (hg : w.heap[gp]? = some (.cells cs 34 (0, 0))) (hok : ∀ g ∈ l, g.ok) :
    Calls Try.prog 177 #[v, .func (.func 178) #[] #[.pointer (some ⟨gp, 0, none⟩)]] w fun e w' => e = .returned (.bool (l.any fun g => !goatOk p g)) ∧ Below w.heap.size w w' := by
  go_enter Try.func177, Try.ntmps177
  go_wp2_with (first
    | (go_at_call 236; (with_reducible refine (idxGt_any v l p cs gp _ hl hp hg hok).mono ?_); rintro e w4 ⟨r, rfl, hr, hb⟩))
  go_ret
  exact ⟨by rw [← hr]; rfl, hb⟩
set_option maxRecDepth 100000 in
set_option maxHeartbeats 1000000 in
theorem implValidGoats_any (p : Nat → Int) (cs : Array Value) (v : Value) (l : List Gt) (w : World) (hp : Pv p cs) (hl : Sl w 7 v (l.map Gt.cells)) (hok : ∀ g ∈ l, g.ok) :
    Calls Try.prog 83 #[.agg cs, v] w fun e w' => e = .returned (.bool (validGt p l)) ∧ Below w.heap.size w w' := by
  have hL := Own.start w
  have HP := Lib.hid hp
  have HS := Lib.hid hl
  have HOK := Lib.hid hok
  have hsz := hp.size
  obtain ⟨A, cap, rfl, hc1, hm1, _⟩ := hl
  rw [List.length_map] at HS hc1 ⊢
  unfold maxLen at hm1
  clear hp hok
  obtain ⟨N, hN⟩ : ∃ N, l.length = N := ⟨_, rfl⟩
  have HN := Lib.hid hN
  rw [hN] at HS hc1 ⊢
  clear hN
  obtain ⟨c1, e1⟩ : ∃ c, validP p = c := ⟨_, rfl⟩
  obtain ⟨c2, e2⟩ : ∃ c, (l.any fun g => !goatOk p g) = c := ⟨_, rfl⟩
  have HV : Hid (validGt p l = (c1 && (decide ((N : Int) ≤ 20) && !c2))) := by
    show validGt p l = _
    unfold validGt
    rw [e1, ← e2, not_all, Bool.not_not, HN.out]
    congr 2
    exact decide_eq_decide.2 (by omega)
  go_enter Try.func83, Try.ntmps83
  by_cases h20 : (N : Int) ≤ 20
  · have HD : Hid (decide ((N : Int) ≤ 20) = true) := by show decide _ = true; simpa using h20
    go_wp2_with (first
      | ((with_reducible refine gate_dst (N := 2) rfl ?_); refine wpl_box (cs := cs) hL rfl rfl rfl ?_; clear hL; intro g2 w2 hL)
      | ((with_reducible refine gate_load (ty := 34) rfl ?_); refine wpl_loadW_0 hL rfl rfl (by kernel_rfl) rfl hsz (by kernel_rfl) ?_)
      | (go_at_call 150; (with_reducible refine (implValidPasture_any p cs _ HP.out).mono ?_); rintro e w4 ⟨rfl, hb⟩; rw [e1]; replace hL := hL.ext hb; clear hb; cases c1)
      | (go_at_call 177; (with_reducible refine (hasGt_any _ l p cs _ _ (HS.out.below hL.toBelow) HP.out (hL.at_ (i := 0) rfl) HOK.out).mono ?_); rintro e w4 ⟨rfl, hb⟩; rw [e2]; replace hL := hL.ext hb; clear hb; cases c2))
    all_goals (go_ret; exact ⟨by rw [HV.out, HD.out]; rfl, hL.toBelow⟩)
  · have HD : Hid (decide ((N : Int) ≤ 20) = false) := by show decide _ = false; simpa using h20
    go_wp2_with (first
      | ((with_reducible refine gate_dst (N := 2) rfl ?_); refine wpl_box (cs := cs) hL rfl rfl rfl ?_; clear hL; intro g2 w2 hL)
      | ((with_reducible refine gate_load (ty := 34) rfl ?_); refine wpl_loadW_0 hL rfl rfl (by kernel_rfl) rfl hsz (by kernel_rfl) ?_)
      | (go_at_call 150; (with_reducible refine (implValidPasture_any p cs _ HP.out).mono ?_); rintro e w4 ⟨rfl, hb⟩; rw [e1]; replace hL := hL.ext hb; clear hb; cases c1))
    all_goals (go_ret; exact ⟨by rw [HV.out, HD.out]; rfl, hL.toBelow⟩)
end Go.Proofs.Ytpifngdmlmfnhaa
