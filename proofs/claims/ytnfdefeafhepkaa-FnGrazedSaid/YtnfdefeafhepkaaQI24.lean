import Derived.Test.YtnfdefeafhepkaaQI19
import Derived.Test.YtnfdefeafhepkaaQI22
import Derived.Test.YtnfdefeafhepkaaQI23
set_option linter.unusedVariables false
set_option linter.unusedSimpArgs false
namespace Go.Proofs.Ytnfdefeafhepkaa
open Go.RowKit Mem
attribute [local irreducible] Calm.wpLex
def validGt (p : Nat → Int) (l : List Gt) : Bool := validP p && (decide (l.length ≤ 20) && l.all (goatOk p))
theorem goatClosure_any (p : Nat → Int) (cs : Array Value) (gp : Nat) (g : Gt) (w : World) (hp : Pv p cs) (hw : w.heap[gp]? = some (.cells cs 36 (0, 0))) (hg : g.ok) :
    Calls Try.prog 77 #[.agg g.cells.toArray, .pointer (some ⟨gp, 0, none⟩)] w fun e w' => e = .returned (.bool (!(goatOk p g))) ∧ Below w.heap.size w w' :=
  goatClosure_raw p cs gp g.x g.y g.u g.v g.rope g.eats g.likes w hp hw hg
theorem not_all {l : List Gt} {f : Gt → Bool} : (l.any fun g => !f g) = !(l.all f) := by
  induction l with
  | nil => rfl
  | cons a l ih => simp [List.any_cons, List.all_cons, ih]
set_option maxRecDepth 100000 in
set_option maxHeartbeats 1000000 in
theorem idxGt_any (v : Value) (l : List Gt) (p : Nat → Int) (cs : Array Value) (gp : Nat) (w : World) (hl : Sl w 7 v (l.map Gt.cells)) (hp : Pv p cs) (hg : w.heap[gp]? = some (.cells cs 36 (0, 0))) (hok : ∀ g ∈ l, g.ok) :
    Calls Try.prog 126 #[v, .func (.func 77) #[] #[.pointer (some ⟨gp, 0, none⟩)]] w fun e w' => ∃ r, e = .returned (.int .i64 r) ∧ (decide (0 ≤ r) = l.any fun g => !goatOk p g) ∧ Below w.heap.size w w' := by
  have hL := Own.start w
  have HS := Lib.hid hl
  have HW := Lib.hid hg
  have HOK := Lib.hid hok
  have HP := Lib.hid hp
  obtain ⟨A, cap, rfl, hc1, hm1, _⟩ := hl
  rw [List.length_map] at HS hc1 ⊢
  unfold maxLen at hm1
  obtain ⟨N, hN⟩ : ∃ N, l.length = N := ⟨_, rfl⟩
  have HN := Lib.hid hN
  rw [hN] at HS hc1 ⊢
  clear hN hg hok hp
  go_enter Try.func126, Try.ntmps126
  go_wp2
  go_loopg [8] N (fun n i wr => ∃ (k : Nat), k ≤ N ∧ n = N - k ∧ i = .int .i64 k ∧ Hid (∀ j g, j < k → l[j]? = some g → goatOk p g = true) ∧ Own w.heap.size [] w wr [])
  case atStart => exact ⟨0, by omega, rfl, rfl, (fun j g hj => by omega), hL⟩
  case round =>
    clear hL
    obtain ⟨k, hk, rfl, rfl, HA, hL⟩ := hrel
    by_cases hlt : k < N
    · have HS2 := HS.out.below hL.toBelow
      have HW2 := Lib.hid (block_below HW.out hL.toBelow)
      obtain ⟨A2, cap2, hv2, _, _, hel⟩ := HS2
      injection hv2 with hA hn2 hc2
      obtain ⟨s, hs⟩ : ∃ s, l[k]? = some s := ⟨_, List.getElem?_eq_getElem (by have := HN.out; omega)⟩
      have HSK := Lib.hid hs
      have HSO := Lib.hid (HOK.out s (List.mem_of_getElem? hs))
      have hmap : (l.map Gt.cells)[k]? = some s.cells := by rw [List.getElem?_map, hs]; rfl
      obtain ⟨hcl, b, off, hA2, hcell⟩ := hel k _ hmap
      have HC := Lib.hid hcell
      obtain rfl : A = some ⟨b, off, none⟩ := hA.trans hA2
      clear hel hmap hs hA hn2 hc2 hA2 hcell
      have hi1 : (k : Int) < (N : Int) := by omega
      obtain ⟨bb, hbb⟩ : ∃ bb, goatOk p s = bb := ⟨_, rfl⟩
      have HB := Lib.hid hbb
      cases bb with
      | true =>
        go_wp2_with (first
          | ((with_reducible refine gate_load rfl ?_); refine wpl_loadA 7 rfl rfl (by kernel_rfl) rfl (c := s.cells) HC.out (by kernel_rfl) rfl ?_)
          | (go_at_call 77; (with_reducible refine (goatClosure_any p cs gp s _ HP.out HW2.out HSO.out).mono ?_); rintro e w4 ⟨rfl, hb⟩; rw [hbb]; replace hL := hL.ext hb; clear hb))
        go_roundg (N - (k + 1))
        case measure => omega
        case rel => exact ⟨k + 1, by omega, rfl, by go_num, (fun j g hj hg => by
          rcases Nat.lt_succ_iff_lt_or_eq.1 hj with e | e
          · exact HA.out j g e hg
          · subst e; have := HSK.out; rw [hg] at this; injection this with this; subst this; exact HB.out), hL⟩
      | false =>
        go_wp2_with (first
          | ((with_reducible refine gate_load rfl ?_); refine wpl_loadA 7 rfl rfl (by kernel_rfl) rfl (c := s.cells) HC.out (by kernel_rfl) rfl ?_)
          | (go_at_call 77; (with_reducible refine (goatClosure_any p cs gp s _ HP.out HW2.out HSO.out).mono ?_); rintro e w4 ⟨rfl, hb⟩; rw [hbb]; replace hL := hL.ext hb; clear hb))
        go_ret
        refine ⟨k, rfl, ?_, hL.toBelow⟩
        have : (l.any fun g => !goatOk p g) = true := List.any_eq_true.2 ⟨s, List.mem_of_getElem? HSK.out, by rw [HB.out]; rfl⟩
        rw [this]; simp
    · go_wp2
      go_ret
      refine ⟨-1, rfl, ?_, hL.toBelow⟩
      have : (l.any fun g => !goatOk p g) = false := by
        rw [List.any_eq_false]
        intro s hs
        obtain ⟨j, hj⟩ := List.mem_iff_getElem?.1 hs
        have hjl : j < l.length := (List.getElem?_eq_some_iff.1 hj).1
        rw [HA.out j s (by have := HN.out; omega) hj]; simp
      rw [this]; simp
set_option maxRecDepth 100000 in
theorem hasGt_any (v : Value) (l : List Gt) (p : Nat → Int) (cs : Array Value) (gp : Nat) (w : World) (hl : Sl w 7 v (l.map Gt.cells)) (hp : Pv p cs) (hg : w.heap[gp]? = some (.cells cs 36 (0, 0))) (hok : ∀ g ∈ l, g.ok) :
    Calls Try.prog 76 #[v, .func (.func 77) #[] #[.pointer (some ⟨gp, 0, none⟩)]] w fun e w' => e = .returned (.bool (l.any fun g => !goatOk p g)) ∧ Below w.heap.size w w' := by
  go_enter Try.func76, Try.ntmps76
  go_wp2_with (first
    | (go_at_call 126; (with_reducible refine (idxGt_any v l p cs gp _ hl hp hg hok).mono ?_); rintro e w4 ⟨r, rfl, hr, hb⟩))
  go_ret
  exact ⟨by rw [← hr]; rfl, hb⟩
set_option maxRecDepth 100000 in
set_option maxHeartbeats 1000000 in
theorem implValidGoats_any (p : Nat → Int) (cs : Array Value) (v : Value) (l : List Gt) (w : World) (hp : Pv p cs) (hl : Sl w 7 v (l.map Gt.cells)) (hok : ∀ g ∈ l, g.ok) :
    Calls Try.prog 30 #[.agg cs, v] w fun e w' => e = .returned (.bool (validGt p l)) ∧ Below w.heap.size w w' := by
  have hL := Own.start w
  have HP := Lib.hid hp
  have HS := Lib.hid hl
  have HOK := Lib.hid hok
  have hsz := hp.size
  obtain ⟨A, cap, rfl, hc1, hm1, _⟩ := hl
  rw [List.length_map] at HS hc1 ⊢
  unfold maxLen at hm1
  clear hp hok
  obtain ⟨N, hN⟩ : ∃ N, l.length = N := ⟨_, rfl⟩
  have HN := Lib.hid hN
  rw [hN] at HS hc1 ⊢
  clear hN
  obtain ⟨c1, e1⟩ : ∃ c, validP p = c := ⟨_, rfl⟩
  obtain ⟨c2, e2⟩ : ∃ c, (l.any fun g => !goatOk p g) = c := ⟨_, rfl⟩
  have HV : Hid (validGt p l = (c1 && (decide ((N : Int) ≤ 20) && !c2))) := by
    show validGt p l = _
    unfold validGt
    rw [e1, ← e2, not_all, Bool.not_not, HN.out]
    congr 2
    exact decide_eq_decide.2 (by omega)
  go_enter Try.func30, Try.ntmps30
  by_cases h20 : (N : Int) ≤ 20
  · have HD : Hid (decide ((N : Int) ≤ 20) = true) := by show decide _ = true; simpa using h20
    go_wp2_with (first
      | ((with_reducible refine gate_dst (N := 2) rfl ?_); refine wpl_box (cs := cs) hL rfl rfl rfl ?_; clear hL; intro g2 w2 hL)
      | ((with_reducible refine gate_load (ty := 36) rfl ?_); refine wpl_loadW_0 hL rfl rfl (by kernel_rfl) rfl hsz (by kernel_rfl) ?_)
      | (go_at_call 59; (with_reducible refine (implValidPasture_any p cs _ HP.out).mono ?_); rintro e w4 ⟨rfl, hb⟩; rw [e1]; replace hL := hL.ext hb; clear hb; cases c1)
      | (go_at_call 76; (with_reducible refine (hasGt_any _ l p cs _ _ (HS.out.below hL.toBelow) HP.out (hL.at_ (i := 0) rfl) HOK.out).mono ?_); rintro e w4 ⟨rfl, hb⟩; rw [e2]; replace hL := hL.ext hb; clear hb; cases c2))
    all_goals (go_ret; exact ⟨by rw [HV.out, HD.out]; rfl, hL.toBelow⟩)
  · have HD : Hid (decide ((N : Int) ≤ 20) = false) := by show decide _ = false; simpa using h20
    go_wp2_with (first
      | ((with_reducible refine gate_dst (N := 2) rfl ?_); refine wpl_box (cs := cs) hL rfl rfl rfl ?_; clear hL; intro g2 w2 hL)
      | ((with_reducible refine gate_load (ty := 36) rfl ?_); refine wpl_loadW_0 hL rfl rfl (by kernel_rfl) rfl hsz (by kernel_rfl) ?_)
      | (go_at_call 59; (with_reducible refine (implValidPasture_any p cs _ HP.out).mono ?_); rintro e w4 ⟨rfl, hb⟩; rw [e1]; replace hL := hL.ext hb; clear hb; cases c1))
    all_goals (go_ret; exact ⟨by rw [HV.out, HD.out]; rfl, hL.toBelow⟩)
end Go.Proofs.Ytnfdefeafhepkaa
namespace Go.Proofs.Ytnfdefeafhepkaa
open Go.RowKit Mem
attribute [local irreducible] Calm.wpLex
set_option maxRecDepth 100000 in
theorem l02Square_any (a b : Sp) (w : World) (ha : a.ok) (hb : b.ok) :
    Calls Try.prog 119 #[.agg #[.int .i8 a.x, .int .i8 a.y], .agg #[.int .i8 b.x, .int .i8 b.y]] w fun e w' => e = .returned (.int .i64 (sqOf a b)) ∧ Below w.heap.size w w' := by
  have hL := Own.start w
  obtain ⟨x1, y1⟩ := a
  obtain ⟨x2, y2⟩ := b
  obtain ⟨a1, a2, a3, a4⟩ := ha
  obtain ⟨b1, b2, b3, b4⟩ := hb
  simp only [] at a1 a2 a3 a4 b1 b2 b3 b4
  show Calls Try.prog 119 #[.agg #[.int .i8 x1, .int .i8 y1], .agg #[.int .i8 x2, .int .i8 y2]] w fun e w' => e = .returned (.int .i64 ((x1 - x2) * (x1 - x2) + (y1 - y2) * (y1 - y2))) ∧ Below w.heap.size w w'
  obtain ⟨p1, p2⟩ := sq_bounds (d := x1 - x2) (by omega) (by omega)
  obtain ⟨q1, q2⟩ := sq_bounds (d := y1 - y2) (by omega) (by omega)
  go_enter Try.func119, Try.ntmps119
  go_wp2_with (first
    | ((with_reducible refine gate_dst (N := 2) rfl ?_); refine wpl_box (cs := #[.int .i8 x1, .int .i8 y1]) hL rfl rfl rfl ?_; clear hL; intro g2 w2 hL)
    | ((with_reducible refine gate_dst (N := 3) rfl ?_); refine wpl_box (cs := #[.int .i8 x2, .int .i8 y2]) hL rfl rfl rfl ?_; clear hL; intro g3 w3 hL)
    | ((with_reducible refine gate_load rfl ?_); first | (refine wpl_load_0 hL rfl rfl (by kernel_rfl) rfl (by first | rfl | assumption) ?_) | (refine wpl_load_1 hL rfl rfl (by kernel_rfl) rfl (by first | rfl | assumption) ?_) | (refine wpl_load_2 hL rfl rfl (by kernel_rfl) rfl (by first | rfl | assumption) ?_) | (refine wpl_load_3 hL rfl rfl (by kernel_rfl) rfl (by first | rfl | assumption) ?_) | (refine wpl_load_4 hL rfl rfl (by kernel_rfl) rfl (by first | rfl | assumption) ?_) | (refine wpl_load_5 hL rfl rfl (by kernel_rfl) rfl (by first | rfl | assumption) ?_)))
  go_ret
  exact ⟨rfl, hL.toBelow⟩

set_option maxRecDepth 100000 in
set_option maxHeartbeats 4000000 in
theorem l02Plain_raw (b off : Nat) (x y u v rope eats likes : Int) (w : World) (hg : (Gt.mk x y u v rope eats likes).ok) (hc : CellsAt w b off (Gt.mk x y u v rope eats likes).cells) :
    Calls Try.prog 138 #[.pointer (some ⟨b, off, none⟩)] w fun e w' => e = .returned (.bool (plainG ⟨x, y, u, v, rope, eats, likes⟩)) ∧ w = w' := by
  obtain ⟨⟨h1, h2, h3, h4⟩, ⟨h5, h6, h7, h8⟩, ⟨h9, h10⟩, ⟨h11, h12⟩, h13, h14⟩ := hg
  simp only at h1 h2 h3 h4 h5 h6 h7 h8 h9 h10 h11 h12 h13 h14
  have HC4 : Hid (w.cell? ⟨b, off + 4, none⟩ = some (.int .i16 rope)) := hc 4 _ rfl
  have HC5 : Hid (w.cell? ⟨b, off + 5, none⟩ = some (.int .i16 eats)) := hc 5 _ rfl
  have HC6 : Hid (w.cell? ⟨b, off + 6, none⟩ = some (.int .i8 likes)) := hc 6 _ rfl
  have HS2 : Hid (CellsAt w b (off + 2) (Sp.mk u v).cells) := hc.part 2 (Gt.stake_ (Gt.mk x y u v rope eats likes))
  clear hc
  obtain ⟨c1, e1⟩ : ∃ c, inB rope (-1) 200 = c := ⟨_, rfl⟩
  obtain ⟨c2, e2⟩ : ∃ c, inB eats 0 100 = c := ⟨_, rfl⟩
  obtain ⟨c3, e3⟩ : ∃ c, inB likes 0 1 = c := ⟨_, rfl⟩
  have HV : Hid (plainG ⟨x, y, u, v, rope, eats, likes⟩ = (c1 && (c2 && (c3 && tied ⟨x, y, u, v, rope, eats, likes⟩)))) := by show plainG _ = _; unfold plainG; simp only [e1, e2, e3]
  by_cases hr : rope < 0
  · have hr0 : ¬ 0 ≤ rope := by omega
    by_cases hu : u = 0
    · subst hu
      by_cases hv : v = 0
      · subst hv
        have HT : Hid (tied ⟨x, y, 0, 0, rope, eats, likes⟩ = true) := by show tied _ = true; simp [tied]
        go_enter Try.func138, Try.ntmps138
        go_wp2_with (first
          | ((with_reducible refine gate_load rfl ?_); (refine wpl_ungate ?hw ?_); (case hw => (simp [Region.wanted, yielded, *]; done)))
          | ((with_reducible refine gate_load (ty := 66) rfl ?_); refine wpl_loadA 2 rfl rfl (by kernel_rfl) rfl (c := [.int .i8 0, .int .i8 0]) HS2.out (by kernel_rfl) rfl ?_)
          | ((with_reducible refine gate_load (ty := 23) rfl ?_); first | (refine wpl_load1 rfl rfl (by kernel_rfl) rfl (HC4.out) ?_) | (refine wpl_load1 rfl rfl (by kernel_rfl) rfl (HC5.out) ?_))
          | ((with_reducible refine gate_load (ty := 22) rfl ?_); (refine wpl_load1 rfl rfl (by kernel_rfl) rfl (HC6.out) ?_))
          | (go_at_call 106; first
            | ((with_reducible refine (l00In_any rope (-1) 200 _).mono ?_); rintro e w4 ⟨rfl, rfl⟩; rw [e1]; cases c1)
            | ((with_reducible refine (l00In_any eats 0 100 _).mono ?_); rintro e w4 ⟨rfl, rfl⟩; rw [e2]; cases c2)
            | ((with_reducible refine (l00In_any likes 0 1 _).mono ?_); rintro e w4 ⟨rfl, rfl⟩; rw [e3]; cases c3)))
        all_goals (go_ret; exact ⟨by rw [HV.out, HT.out]; first | rfl | (show Ending.returned (Value.bool (decide (0 ≤ rope))) = _; rw [show decide (0 ≤ rope) = false from by simp; omega]; rfl), rfl⟩)
      · have HT : Hid (tied ⟨x, y, 0, v, rope, eats, likes⟩ = false) := by show tied _ = false; simp [tied, hv]; omega
        go_enter Try.func138, Try.ntmps138
        go_wp2_with (first
          | ((with_reducible refine gate_load rfl ?_); (refine wpl_ungate ?hw ?_); (case hw => (simp [Region.wanted, yielded, *]; done)))
          | ((with_reducible refine gate_load (ty := 66) rfl ?_); refine wpl_loadA 2 rfl rfl (by kernel_rfl) rfl (c := [.int .i8 0, .int .i8 v]) HS2.out (by kernel_rfl) rfl ?_)
          | ((with_reducible refine gate_load (ty := 23) rfl ?_); first | (refine wpl_load1 rfl rfl (by kernel_rfl) rfl (HC4.out) ?_) | (refine wpl_load1 rfl rfl (by kernel_rfl) rfl (HC5.out) ?_))
          | ((with_reducible refine gate_load (ty := 22) rfl ?_); (refine wpl_load1 rfl rfl (by kernel_rfl) rfl (HC6.out) ?_))
          | (go_at_call 106; first
            | ((with_reducible refine (l00In_any rope (-1) 200 _).mono ?_); rintro e w4 ⟨rfl, rfl⟩; rw [e1]; cases c1)
            | ((with_reducible refine (l00In_any eats 0 100 _).mono ?_); rintro e w4 ⟨rfl, rfl⟩; rw [e2]; cases c2)
            | ((with_reducible refine (l00In_any likes 0 1 _).mono ?_); rintro e w4 ⟨rfl, rfl⟩; rw [e3]; cases c3)))
        all_goals (go_ret; exact ⟨by rw [HV.out, HT.out]; first | rfl | (show Ending.returned (Value.bool (decide (0 ≤ rope))) = _; rw [show decide (0 ≤ rope) = false from by simp; omega]; rfl), rfl⟩)
    · have HT : Hid (tied ⟨x, y, u, v, rope, eats, likes⟩ = false) := by show tied _ = false; simp [tied, hu]; omega
      go_enter Try.func138, Try.ntmps138
      go_wp2_with (first
        | ((with_reducible refine gate_load rfl ?_); (refine wpl_ungate ?hw ?_); (case hw => (simp [Region.wanted, yielded, *]; done)))
        | ((with_reducible refine gate_load (ty := 66) rfl ?_); refine wpl_loadA 2 rfl rfl (by kernel_rfl) rfl (c := [.int .i8 u, .int .i8 v]) HS2.out (by kernel_rfl) rfl ?_)
        | ((with_reducible refine gate_load (ty := 23) rfl ?_); first | (refine wpl_load1 rfl rfl (by kernel_rfl) rfl (HC4.out) ?_) | (refine wpl_load1 rfl rfl (by kernel_rfl) rfl (HC5.out) ?_))
        | ((with_reducible refine gate_load (ty := 22) rfl ?_); (refine wpl_load1 rfl rfl (by kernel_rfl) rfl (HC6.out) ?_))
        | (go_at_call 106; first
          | ((with_reducible refine (l00In_any rope (-1) 200 _).mono ?_); rintro e w4 ⟨rfl, rfl⟩; rw [e1]; cases c1)
          | ((with_reducible refine (l00In_any eats 0 100 _).mono ?_); rintro e w4 ⟨rfl, rfl⟩; rw [e2]; cases c2)
          | ((with_reducible refine (l00In_any likes 0 1 _).mono ?_); rintro e w4 ⟨rfl, rfl⟩; rw [e3]; cases c3)))
      all_goals (go_ret; exact ⟨by rw [HV.out, HT.out]; first | rfl | (show Ending.returned (Value.bool (decide (0 ≤ rope))) = _; rw [show decide (0 ≤ rope) = false from by simp; omega]; rfl), rfl⟩)
  · have hr0 : 0 ≤ rope := by omega
    have HT : Hid (tied ⟨x, y, u, v, rope, eats, likes⟩ = true) := by show tied _ = true; simp [tied, hr0]
    go_enter Try.func138, Try.ntmps138
    go_wp2_with (first
      | ((with_reducible refine gate_load rfl ?_); (refine wpl_ungate ?hw ?_); (case hw => (simp [Region.wanted, yielded, *]; done)))
      | ((with_reducible refine gate_load (ty := 66) rfl ?_); refine wpl_loadA 2 rfl rfl (by kernel_rfl) rfl (c := [.int .i8 u, .int .i8 v]) HS2.out (by kernel_rfl) rfl ?_)
      | ((with_reducible refine gate_load (ty := 23) rfl ?_); first | (refine wpl_load1 rfl rfl (by kernel_rfl) rfl (HC4.out) ?_) | (refine wpl_load1 rfl rfl (by kernel_rfl) rfl (HC5.out) ?_))
      | ((with_reducible refine gate_load (ty := 22) rfl ?_); (refine wpl_load1 rfl rfl (by kernel_rfl) rfl (HC6.out) ?_))
      | (go_at_call 106; first
        | ((with_reducible refine (l00In_any rope (-1) 200 _).mono ?_); rintro e w4 ⟨rfl, rfl⟩; rw [e1]; cases c1)
        | ((with_reducible refine (l00In_any eats 0 100 _).mono ?_); rintro e w4 ⟨rfl, rfl⟩; rw [e2]; cases c2)
        | ((with_reducible refine (l00In_any likes 0 1 _).mono ?_); rintro e w4 ⟨rfl, rfl⟩; rw [e3]; cases c3)))
    all_goals (go_ret; exact ⟨by rw [HV.out, HT.out]; first | rfl | (show Ending.returned (Value.bool (decide (0 ≤ rope))) = _; rw [show decide (0 ≤ rope) = false from by simp; omega]; rfl), rfl⟩)

end Go.Proofs.Ytnfdefeafhepkaa
namespace Go.Proofs.Ytnfdefeafhepkaa
open Go.RowKit Mem Wk
attribute [local irreducible] Calls Wk.S Wk.C Wk.E Wk.X Wk.T Calm.wpLex
theorem gt_slA {w : World} {b off : Nat} {c : List Value} (h : CellsAt w b off c) (hl : c.length = 7) : SlA [] w 7 (some ⟨b, off, none⟩) [c] := fun i d hd => by
  cases i with
  | zero =>
    simp at hd; subst hd
    exact ⟨hl, b, off, rfl, by simp, fun j u hu => by simpa using h j u hu⟩
  | succ i => simp at hd
set_option maxRecDepth 100000 in
set_option maxHeartbeats 1600000 in
theorem l02Goat_new (p : Nat → Int) (cs : Array Value) (T : TypeId) (gp b off : Nat) (x y u v rope eats likes : Int) (w : World) (hp : Pv p cs) (hw : w.heap[gp]? = some (.cells cs T (0, 0))) (ha : p 0 ≤ 10) (hb0 : p 1 ≤ 10) (hg : (Gt.mk x y u v rope eats likes).ok) (hc : CellsAt w b off (Gt.mk x y u v rope eats likes).cells) :
    Calls Try.prog 124 #[.pointer (some ⟨gp, 0, none⟩), .pointer (some ⟨b, off, none⟩)] w fun e w' => e = .returned (.bool (goatOk p ⟨x, y, u, v, rope, eats, likes⟩)) ∧ Below w.heap.size w w' := by
  have hS := gt_slA hc rfl
  have hpl := fun w' (hb : Below w.heap.size w w') => l02Plain_raw b off x y u v rope eats likes w' hg (hc.below hb)
  obtain ⟨⟨h1, h2, h3, h4⟩, ⟨h5, h6, h7, h8⟩, ⟨h9, h10⟩, _⟩ := hg
  simp only at h1 h2 h3 h4 h5 h6 h7 h8 h9 h10
  have his1 := fun w hw => l01Is_any p cs T gp x y w hp hw ha hb0 ⟨h1, h2⟩ ⟨h3, h4⟩
  have his2 := fun w hw => l01Is_any p cs T gp u v w hp hw ha hb0 ⟨h5, h6⟩ ⟨h7, h8⟩
  have hsq := fun w => l02Square_any ⟨x, y⟩ ⟨u, v⟩ w ⟨h1, h2, h3, h4⟩ ⟨h5, h6, h7, h8⟩
  have hx0 : ([(Gt.mk x y u v rope eats likes).cells] : List (List Value))[0]? = some (Gt.mk x y u v rope eats likes).cells := rfl
  have hok : goatOk p ⟨x, y, u, v, rope, eats, likes⟩ = (isC (p 0) (p 1) x y && (isC (p 0) (p 1) u v && (plainG ⟨x, y, u, v, rope, eats, likes⟩ && (decide (rope < 0) || decide (sqOf ⟨x, y⟩ ⟨u, v⟩ ≤ rope))))) := by
    have e : sqA u v x y = sqOf ⟨x, y⟩ ⟨u, v⟩ := by
      unfold sqA sqOf
      simp only
      rw [show u - x = -(x - u) by omega, show v - y = -(y - v) by omega, Int.neg_mul_neg, Int.neg_mul_neg]
    unfold goatOk nearG
    simp only [e]
  rw [hok]
  generalize plainG ⟨x, y, u, v, rope, eats, likes⟩ = c1 at *
  generalize isC (p 0) (p 1) x y = c2 at *
  generalize isC (p 0) (p 1) u v = c3 at *
  generalize sqOf ⟨x, y⟩ ⟨u, v⟩ = sq at *
  have hcase : (c1 = false) ∨ (c1 = true ∧ c2 = false) ∨ (c1 = true ∧ c2 = true ∧ c3 = false) ∨ (c1 = true ∧ c2 = true ∧ c3 = true ∧ rope < 0) ∨ (c1 = true ∧ c2 = true ∧ c3 = true ∧ ¬ rope < 0) := by
    cases c1 <;> cases c2 <;> cases c3 <;> simp <;> omega
  rcases hcase with q1 | ⟨q1, q2⟩ | ⟨q1, q2, q3⟩ | ⟨q1, q2, q3, q4⟩ | ⟨q1, q2, q3, q4⟩
  all_goals (try subst q1)
  all_goals (try subst q2)
  all_goals (try subst q3)
  all_goals
    refine enter2 Try.func124 rfl rfl rfl (Own.start w) ?_
    repeat' (first | (refine s_g ?_; first | (refine s_gd rfl ?_; first | refine s_gd1 rfl rfl zTr ?_ | refine s_gd0 rfl rfl rfl zTr ?_ | refine s_gd00 rfl rfl zTr ?_ | refine s_gp1 rfl rfl rfl (fun hc => ?_) (fun hc => ?_) | refine s_gp0 rfl rfl rfl (fun hc => ?_) (fun hc => ?_) | refine s_gnp1 rfl rfl rfl (fun hc => ?_) (fun hc => ?_) | refine s_gnp0 rfl rfl rfl (fun hc => ?_) (fun hc => ?_) | refine s_gb1 rfl rfl rfl (fun hc => ?_) (fun hc => ?_) | refine s_gb0 rfl rfl rfl (fun hc => ?_) (fun hc => ?_) | refine s_gnb1 rfl rfl rfl (fun hc => ?_) (fun hc => ?_) | refine s_gnb0 rfl rfl rfl (fun hc => ?_) (fun hc => ?_)) | (refine s_k 0 rfl ?_; refine zsv (r_move rfl rfl) ?_) | (refine s_k 23 rfl ?_; first | refine zsv (r_field tb rfl rfl rfl) ?_ | refine zsv (r_fieldS tb rfl rfl rfl) ?_) | (refine s_k 8 rfl ?_; first | refine zsv (r_ldSp (j := 0) (e := 0) (c' := [.int .i8 x, .int .i8 y]) tb rfl hS rfl rfl hx0 rfl rfl rfl) ?_ | refine zsv (r_ldSp (j := 2) (e := 2) (c' := [.int .i8 u, .int .i8 v]) tb rfl hS rfl rfl hx0 rfl rfl rfl) ?_ | refine zsv (r_ldSc (e := 4) tb 4 rfl hS rfl rfl hx0 rfl rfl) ?_ | (refine' s_val rfl rfl rfl (r_ldv rfl rfl ?qm ?qv) ?_; (case qm => (exact zMm)); (case qv => (exact zLe))) | (refine' s_val rfl rfl rfl (r_ldo rfl rfl ?qw (by simp) ?qv) ?_; (case qw => assumption); (case qv => (exact zLe)))) | (refine s_k 1 rfl ?_; refine zsv (r_assign rfl rfl) ?_) | (refine s_k 13 rfl ?_; first | refine zsv (r_lss rfl rfl rfl) ?_ | refine zsv (r_leq rfl rfl rfl) ?_) | (refine s_k 35 rfl ?_; first | (refine s_call Try.func138 (by kernel_rfl) rfl rfl rfl rfl rfl rfl (fun w hL => to_below (hpl w hL.toBelow) rfl) ?_) | (refine s_call Try.func90 (by kernel_rfl) rfl rfl rfl rfl rfl rfl (fun w hL => his1 w (Kn.old hL hw (by simp))) ?_) | (refine s_call Try.func90 (by kernel_rfl) rfl rfl rfl rfl rfl rfl (fun w hL => his2 w (Kn.old hL hw (by simp))) ?_) | (refine s_call Try.func119 (by kernel_rfl) rfl rfl rfl rfl rfl rfl (fun w hL => hsq w) ?_)) | (refine s_k 15 rfl ?_; refine zsv (r_conv tb rfl rfl rfl rfl zWr) ?_) | (refine s_k 2 rfl ?_; first | refine zsv (r_pick1 rfl rfl zTr rfl) ?_ | refine zsv (r_pick0 rfl rfl zTr rfl) ?_) | (refine s_k 12 rfl ?_; refine zsv (r_nil rfl rfl) ?_) | refine s_nil ?_) | (refine c_g ?_; first | refine c_seq ?_ | refine c_region ?_ | (refine c_gc ?_; first | refine c_cond1 rfl zTr ?_ | refine c_cond0 rfl zTr ?_ | refine c_condd rfl (fun hc => ?_) (fun hc => ?_) | refine c_conddn rfl (fun hc => ?_) (fun hc => ?_) | refine c_condn rfl (fun hc => ?_) (fun hc => ?_) | refine c_cond rfl (fun hc => ?_) (fun hc => ?_)) | refine c_block ?_ | refine c_skip ?_ | refine c_exit ?_ | refine c_ret ?_) | (refine e_g ?_; first | refine e_then ?_ | refine e_blkn ?_ | refine e_thenx ?_ | refine e_thenr ?_ | refine e_blkr ?_ | refine e_blkx ?_ | refine e_blky rfl ?_) | (refine x_g ?_; first | (refine x_gd rfl ?_; first | refine x_gd1 rfl rfl zTr ?_ | (refine x_gd0 rfl rfl rfl zTr ?hp ?_; (case hp => exact rfl)) | (refine x_gdu rfl rfl rfl ?hp ?_; (case hp => exact rfl))) | (refine x_k 0 rfl ?_; (refine zxv (r_move rfl rfl) ?hp ?_; (case hp => exact rfl))) | (refine x_k 23 rfl ?_; first | (refine zxv (r_field tb rfl rfl rfl) ?hp ?_; (case hp => exact rfl)) | (refine zxv (r_fieldS tb rfl rfl rfl) ?hp ?_; (case hp => exact rfl))) | (refine x_k 8 rfl ?_; first | (refine zxv (r_ldSp (j := 0) (e := 0) (c' := [.int .i8 x, .int .i8 y]) tb rfl hS rfl rfl hx0 rfl rfl rfl) ?hp ?_; (case hp => exact rfl)) | (refine zxv (r_ldSp (j := 2) (e := 2) (c' := [.int .i8 u, .int .i8 v]) tb rfl hS rfl rfl hx0 rfl rfl rfl) ?hp ?_; (case hp => exact rfl)) | (refine zxv (r_ldSc (e := 4) tb 4 rfl hS rfl rfl hx0 rfl rfl) ?hp ?_; (case hp => exact rfl)) | (refine' x_val rfl rfl rfl (r_ldv rfl rfl ?qm ?qv) ?hp ?_; (case qm => (exact zMm)); (case qv => (exact zLe)); (case hp => exact rfl)) | (refine' x_val rfl rfl rfl (r_ldo rfl rfl ?qw (by simp) ?qv) ?hp ?_; (case qw => assumption); (case qv => (exact zLe)); (case hp => exact rfl))) | (refine x_k 1 rfl ?_; (refine zxv (r_assign rfl rfl) ?hp ?_; (case hp => exact rfl))) | (refine x_k 13 rfl ?_; first | (refine zxv (r_lss rfl rfl rfl) ?hp ?_; (case hp => exact rfl)) | (refine zxv (r_leq rfl rfl rfl) ?hp ?_; (case hp => exact rfl))) | (refine x_k 35 rfl ?_; first | (refine x_call Try.func138 (by kernel_rfl) rfl rfl rfl rfl rfl rfl (fun w hL => to_below (hpl w hL.toBelow) rfl) ?hp ?_; (case hp => exact rfl)) | (refine x_call Try.func90 (by kernel_rfl) rfl rfl rfl rfl rfl rfl (fun w hL => his1 w (Kn.old hL hw (by simp))) ?hp ?_; (case hp => exact rfl)) | (refine x_call Try.func90 (by kernel_rfl) rfl rfl rfl rfl rfl rfl (fun w hL => his2 w (Kn.old hL hw (by simp))) ?hp ?_; (case hp => exact rfl)) | (refine x_call Try.func119 (by kernel_rfl) rfl rfl rfl rfl rfl rfl (fun w hL => hsq w) ?hp ?_; (case hp => exact rfl))) | (refine x_k 15 rfl ?_; (refine zxv (r_conv tb rfl rfl rfl rfl zWr) ?hp ?_; (case hp => exact rfl))) | (refine x_k 2 rfl ?_; first | (refine zxv (r_pick1 rfl rfl zTr rfl) ?hp ?_; (case hp => exact rfl)) | (refine zxv (r_pick0 rfl rfl zTr rfl) ?hp ?_; (case hp => exact rfl))) | (refine x_k 12 rfl ?_; (refine zxv (r_nil rfl rfl) ?hp ?_; (case hp => exact rfl))) | refine x_nil0 ?_ | refine x_nil ?_) | (refine' c_drawX (id := 1) [(.inl _ : zQ), (.inl _ : zQ), (.inl _ : zQ), (.inl _ : zQ), (.inl _ : zQ), (.inl _ : zQ), (.inl _ : zQ), (.inl _ : zQ), (.inl _ : zQ), (.inl _ : zQ), (.inl _ : zQ), (.inl _ : zQ), (.inl _ : zQ), (.inl _ : zQ), (.inl _ : zQ), (.inl _ : zQ), (.inl _ : zQ), (.inl _ : zQ), (.inl _ : zQ), (.inl _ : zQ), (.inl _ : zQ), (.inl _ : zQ), (.inl _ : zQ), (.inl _ : zQ), (.inl _ : zQ), (.inl _ : zQ), (.inl _ : zQ), (.inl _ : zQ), (.inl _ : zQ), (.inl _ : zQ), (.inl _ : zQ), (.inl _ : zQ), (.inl _ : zQ), (.inl _ : zQ), (.inl _ : zQ), (.inl _ : zQ), (.inl _ : zQ), (.inl _ : zQ), (.inl _ : zQ), (.inl _ : zQ), (.inl _ : zQ), (.inl _ : zQ), (.inl _ : zQ)] (by kernel_rfl) (by kernel_rfl) (by kernel_rfl) ?_) | (refine e_ret1 (by simp) rfl (re_tmp rfl) fun w hL => ⟨by simp [*], hL.toBelow⟩))
end Go.Proofs.Ytnfdefeafhepkaa
namespace Go.Proofs.Ytnfdefeafhepkaa
open Go.RowKit Mem
attribute [local irreducible] Calm.wpLex
theorem l02Goat_any (p : Nat → Int) (cs : Array Value) (T : TypeId) (gp b off : Nat) (g : Gt) (w : World) (hp : Pv p cs) (hw : w.heap[gp]? = some (.cells cs T (0, 0))) (ha : p 0 ≤ 10) (hb : p 1 ≤ 10) (hg : g.ok) (hc : CellsAt w b off g.cells) :
    Calls Try.prog 124 #[.pointer (some ⟨gp, 0, none⟩), .pointer (some ⟨b, off, none⟩)] w fun e w' => e = .returned (.bool (goatOk p g)) ∧ Below w.heap.size w w' :=
  l02Goat_new p cs T gp b off g.x g.y g.u g.v g.rope g.eats g.likes w hp hw ha hb hg hc
theorem all_no {l : List Gt} {p : Nat → Int} {k : Nat} {g : Gt} (hk : l[k]? = some g) (h : goatOk p g = false) : validGt p l = false := by
  have : l.all (goatOk p) = false := by
    rw [List.all_eq_false]; exact ⟨g, List.mem_of_getElem? hk, by rw [h]; simp⟩
  unfold validGt; rw [this]; simp
set_option maxRecDepth 100000 in
set_option maxHeartbeats 4000000 in
theorem l02Ok_any (p : Nat → Int) (cs : Array Value) (T : TypeId) (g : Nat) (v : Value) (l : List Gt) (w : World) (hp : Pv p cs) (hg : w.heap[g]? = some (.cells cs T (0, 0))) (hl : Sl w 7 v (l.map Gt.cells)) (hok : ∀ s ∈ l, s.ok) :
    Calls Try.prog 72 #[.pointer (some ⟨g, 0, none⟩), v] w fun e w' => e = .returned (.bool (validGt p l)) ∧ Below w.heap.size w w' := by
  have hL := Own.start w
  have HP := Lib.hid hp
  have HW := Lib.hid hg
  have HS := Lib.hid hl
  have HOK := Lib.hid hok
  obtain ⟨A, cap, rfl, hc1, hm1, _⟩ := hl
  rw [List.length_map] at HS hc1 ⊢
  unfold maxLen at hm1
  clear hp hok hg
  obtain ⟨N, hN⟩ : ∃ N, l.length = N := ⟨_, rfl⟩
  have HN := Lib.hid hN
  rw [hN] at HS hc1 ⊢
  clear hN
  cases hvp : validP p with
  | false =>
    have hv : validGt p l = false := by unfold validGt; rw [hvp]; rfl
    go_enter Try.func72, Try.ntmps72
    go_wp2_with (first
      | (go_at_call 57; (with_reducible refine (l01Ok_any p cs T g _ HP.out (block_below HW.out hL.toBelow)).mono ?_); rintro e w4 ⟨rfl, hb⟩; rw [hvp]; replace hL := hL.ext hb; clear hb))
    go_ret
    exact ⟨by first | (rw [hv]; rfl) | rfl, hL.toBelow⟩
  | true =>
  obtain ⟨ha, hb⟩ := valid_small hvp
  have HVP := Lib.hid hvp
  go_enter Try.func72, Try.ntmps72
  go_wp2_with (first
    | (go_at_call 57; (with_reducible refine (l01Ok_any p cs T g _ HP.out (block_below HW.out hL.toBelow)).mono ?_); rintro e w4 ⟨rfl, hb⟩; rw [hvp]; replace hL := hL.ext hb; clear hb))
  go_loopg [5] N (fun n i wr => ∃ (k : Nat), k ≤ N ∧ n = N - k ∧ i = .int .i64 k ∧ Hid (∀ j g, j < k → l[j]? = some g → goatOk p g = true) ∧ Own w.heap.size [] w wr [])
  case atStart => exact ⟨0, by omega, rfl, rfl, (fun j g hj => by omega), hL⟩
  case round =>
    clear hL
    obtain ⟨k, hk, rfl, rfl, HA, hL⟩ := hrel
    by_cases hlt : k < N
    · have HS2 := HS.out.below hL.toBelow
      obtain ⟨A2, cap2, hv2, _, _, hel⟩ := HS2
      injection hv2 with hA hn2 hc2
      obtain ⟨s, hs⟩ : ∃ s, l[k]? = some s := ⟨_, List.getElem?_eq_getElem (by have := HN.out; omega)⟩
      have HSK := Lib.hid hs
      have HSO := Lib.hid (HOK.out s (List.mem_of_getElem? hs))
      have hmap : (l.map Gt.cells)[k]? = some s.cells := by rw [List.getElem?_map, hs]; rfl
      obtain ⟨hcl, b, off, hA2, hcell⟩ := hel k _ hmap
      have HC : Hid (CellsAt wr b (off + k * 7) s.cells) := hcell
      obtain rfl : A = some ⟨b, off, none⟩ := hA.trans hA2
      clear hel hmap hs hA hn2 hc2 hA2 hcell
      have hi1 : (k : Int) < (N : Int) := by omega
      obtain ⟨bb, hbb⟩ : ∃ bb, goatOk p s = bb := ⟨_, rfl⟩
      have HB := Lib.hid hbb
      cases bb with
      | false =>
        have hv : validGt p l = false := all_no HSK.out HB.out
        go_wp2_with (first
          | (go_at_call 124; (with_reducible refine (l02Goat_any p cs T g b (off + k * 7) s _ HP.out (block_below HW.out hL.toBelow) ha hb HSO.out HC.out).mono ?_); rintro e w4 ⟨rfl, hb⟩; rw [hbb]; replace hL := hL.ext hb; clear hb))
        go_ret
        exact ⟨by first | (rw [hv]; rfl) | rfl, hL.toBelow⟩
      | true =>
        go_wp2_with (first
          | (go_at_call 124; (with_reducible refine (l02Goat_any p cs T g b (off + k * 7) s _ HP.out (block_below HW.out hL.toBelow) ha hb HSO.out HC.out).mono ?_); rintro e w4 ⟨rfl, hb⟩; rw [hbb]; replace hL := hL.ext hb; clear hb))
        go_roundg (N - (k + 1))
        case measure => omega
        case rel => exact ⟨k + 1, by omega, rfl, by go_num, (fun j g hj hg => by
          rcases Nat.lt_succ_iff_lt_or_eq.1 hj with e | e
          · exact HA.out j g e hg
          · subst e; have := HSK.out; rw [hg] at this; injection this with this; subst this; exact HB.out), hL⟩
    · obtain rfl : k = N := by omega
      have hall : l.all (goatOk p) = true := by
        rw [List.all_eq_true]
        intro s hs
        obtain ⟨j, hj⟩ := List.mem_iff_getElem?.1 hs
        have hjl : j < l.length := (List.getElem?_eq_some_iff.1 hj).1
        exact HA.out j s (by have := HN.out; omega) hj
      have HV : Hid (validGt p l = decide ((k : Int) ≤ 20)) := by
        show validGt p l = _
        unfold validGt
        rw [hall, HVP.out, HN.out, Bool.true_and, Bool.and_true]
        exact decide_eq_decide.2 (by omega)
      clear hall
      go_wp2
      go_ret
      exact ⟨by rw [HV.out]; rfl, hL.toBelow⟩
end Go.Proofs.Ytnfdefeafhepkaa
