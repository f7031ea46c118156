import Derived.Test.YtnafnhpajkhgkaaQY06
/- Pastures: validity. No condition. -/
namespace Go.Proofs.Ytnafnhpajkhgkaa
set_option linter.unusedVariables false
set_option linter.unusedSimpArgs false
open Go.RowKit Mem
attribute [local irreducible] Calm.wpLex
def bt (b : Bool) : Int := if b then 1 else 0
theorem bt_le (b : Bool) : 0 ≤ bt b ∧ bt b ≤ 1 := by cases b <;> simp [bt]
/-- the east sides within a row, below column x; the south sides -/
def eM (a b y : Int) : Nat → Int
  | 0 => 0
  | x + 1 => if isC a b x y then bits .or .u16 (eM a b y x) (IntKind.u16.wrap (bt (isC a b (x + 1) y) * 2 ^ x)) else eM a b y x
def sM (a b y : Int) : Nat → Int
  | 0 => 0
  | x + 1 => if isC a b x y then bits .or .u16 (sM a b y x) (IntKind.u16.wrap (bt (isC a b x (y + 1)) * 2 ^ x)) else sM a b y x
def gOk (p : Nat → Int) (y x : Nat) : Bool := inB (p (2 + y * 10 + x)) 0 (if isC (p 0) (p 1) x y then 1000 else 0)
def eOk (p : Nat → Int) (y : Nat) : Bool := decide (bits .andNot .u16 (p (102 + y)) (eM (p 0) (p 1) y 10) = 0)
def sOk (p : Nat → Int) (y : Nat) : Bool := decide (bits .andNot .u16 (p (112 + y)) (sM (p 0) (p 1) y 10) = 0)
def rowOk (p : Nat → Int) (y : Nat) : Bool := ((List.range 10).all (gOk p y)) && (eOk p y && sOk p y)
def validP (p : Nat → Int) : Bool := inB (p 0) 1 10 && (inB (p 1) 1 10 && (List.range 10).all (rowOk p))
theorem all_range {n : Nat} {f : Nat → Bool} : (List.range n).all f = true ↔ ∀ i, i < n → f i = true := by simp [List.all_eq_true]
theorem all_range_no {n i : Nat} {f : Nat → Bool} (hi : i < n) (h : f i = false) : (List.range n).all f = false := by
  rw [List.all_eq_false]; exact ⟨i, by simpa using hi, by simp [h]⟩
theorem validP_row {p : Nat → Int} {y : Nat} (hy : y < 10) (h : rowOk p y = false) : validP p = false := by
  unfold validP; rw [all_range_no hy h]; simp
theorem validP_g {p : Nat → Int} {y x : Nat} (hy : y < 10) (hx : x < 10) (h : gOk p y x = false) : validP p = false :=
  validP_row hy (by unfold rowOk; rw [all_range_no hx h]; rfl)
theorem validP_e {p : Nat → Int} {y : Nat} (hy : y < 10) (h : eOk p y = false) : validP p = false := validP_row hy (by unfold rowOk; rw [h]; simp)
theorem validP_s {p : Nat → Int} {y : Nat} (hy : y < 10) (h : sOk p y = false) : validP p = false := validP_row hy (by unfold rowOk; rw [h]; simp)
theorem row_mk {p : Nat → Int} {y : Nat} (h : ∀ x, x < 10 → gOk p y x = true) (he : eOk p y = true) (hs : sOk p y = true) : rowOk p y = true := by
  unfold rowOk; rw [all_range.2 h, he, hs]; rfl
theorem valid_mk {p : Nat → Int} (ha : inB (p 0) 1 10 = true) (hb : inB (p 1) 1 10 = true) (h : ∀ y, y < 10 → rowOk p y = true) : validP p = true := by
  unfold validP; rw [ha, hb, all_range.2 h]; rfl
theorem upTo_step {P : Nat → Prop} {k : Nat} (h : ∀ j, j < k → P j) (hk : P k) : ∀ j, j < k + 1 → P j := fun j hj => by
  rcases Nat.lt_succ_iff_lt_or_eq.1 hj with e | e
  · exact h j e
  · exact e ▸ hk

set_option maxRecDepth 100000 in
theorem bit_any (b : Bool) (w : World) : Calls Try.prog 94 #[.bool b] w fun e w' => e = .returned (.int .i64 (bt b)) ∧ w = w' := by
  cases b <;> (go_enter Try.func94, Try.ntmps94; go_wp2; go_ret; exact ⟨rfl, rfl⟩)

set_option maxRecDepth 100000 in
set_option maxHeartbeats 4000000 in
theorem implValidPasture_any (p : Nat → Int) (cs : Array Value) (w : World) (hp : Pv p cs) :
    Calls Try.prog 59 #[.agg cs] w fun e w' => e = .returned (.bool (validP p)) ∧ Below w.heap.size w w' := by
  have hL := Own.start w
  have HP := Lib.hid hp
  have g0 := hp.g0
  have g1 := hp.g1
  have b0 := hp.i8 0 (by omega)
  have b1 := hp.i8 1 (by omega)
  have hsz := hp.size
  clear hp
  cases ha : inB (p 0) 1 10 with
  | false =>
    have hv : validP p = false := by unfold validP; rw [ha]; rfl
    rw [hv]
    go_enter Try.func59, Try.ntmps59
    go_wp2_with (first
      | ((with_reducible refine gate_dst (N := 1) rfl ?_); refine wpl_box (cs := cs) hL rfl rfl rfl ?_; clear hL; intro g1 w1 hL)
      | (go_at_call 49; (with_reducible refine (within_any (p 0) 1 10 _).mono ?_); rintro e w4 ⟨rfl, rfl⟩; rw [ha])
      | ((with_reducible refine gate_load rfl ?_); first | (refine wpl_load_0 hL rfl rfl (by kernel_rfl) rfl (by first | rfl | assumption) ?_)))
    go_ret
    exact ⟨rfl, hL.toBelow⟩
  | true =>
  cases hb : inB (p 1) 1 10 with
  | false =>
    have hv : validP p = false := by unfold validP; rw [ha, hb]; rfl
    rw [hv]
    go_enter Try.func59, Try.ntmps59
    go_wp2_with (first
      | ((with_reducible refine gate_dst (N := 1) rfl ?_); refine wpl_box (cs := cs) hL rfl rfl rfl ?_; clear hL; intro g1 w1 hL)
      | (go_at_call 49; (with_reducible refine (within_any (p 0) 1 10 _).mono ?_); rintro e w4 ⟨rfl, rfl⟩; rw [ha])
      | (go_at_call 49; (with_reducible refine (within_any (p 1) 1 10 _).mono ?_); rintro e w4 ⟨rfl, rfl⟩; rw [hb])
      | ((with_reducible refine gate_load rfl ?_); (with_reducible refine wpl_ungate ?_ ?_); first | (kernel_rfl) | skip)
      | ((with_reducible refine gate_load rfl ?_); first | (refine wpl_load_0 hL rfl rfl (by kernel_rfl) rfl (by first | rfl | assumption) ?_)))
    go_ret
    exact ⟨rfl, hL.toBelow⟩
  | true =>
  go_enter Try.func59, Try.ntmps59
  go_wp2_with (first
    | ((with_reducible refine gate_dst (N := 1) rfl ?_); refine wpl_box (cs := cs) hL rfl rfl rfl ?_; clear hL; intro g1 w1 hL)
    | (go_at_call 49; (with_reducible refine (within_any (p 0) 1 10 _).mono ?_); rintro e w4 ⟨rfl, rfl⟩; rw [ha])
    | (go_at_call 49; (with_reducible refine (within_any (p 1) 1 10 _).mono ?_); rintro e w4 ⟨rfl, rfl⟩; rw [hb])
    | ((with_reducible refine gate_load rfl ?_); (with_reducible refine wpl_ungate ?_ ?_); first | (kernel_rfl) | skip)
    | ((with_reducible refine gate_load rfl ?_); first | (refine wpl_load_0 hL rfl rfl (by kernel_rfl) rfl (by first | rfl | assumption) ?_)))
  go_loopg [20] 10 (fun n i wr => ∃ (y : Nat), y ≤ 10 ∧ n = 10 - y ∧ i = .int .i64 y ∧ Hid (∀ j, j < y → rowOk p j = true) ∧ Own w.heap.size [] w wr [(g1, 32, cs)])
  case atStart => exact ⟨0, by omega, rfl, rfl, (fun j hj => by omega), hL⟩
  case round =>
    clear hL
    obtain ⟨y, hy, rfl, rfl, HA, hL⟩ := hrel
    by_cases hlt : y < 10
    case neg =>
      have hv : validP p = true := valid_mk ha hb (fun j hj => HA.out j (by omega))
      go_wp2
      go_ret
      exact ⟨by rw [hv]; rfl, hL.toBelow⟩
    have hyi : (y : Int) < 10 := by omega
    go_wp2
    go_loopg [4, 5, 23] 10 (fun n e s i wi => ∃ (x : Nat) (ee ss : Int), x ≤ 10 ∧ n = 10 - x ∧ e = .int .u16 ee ∧ s = .int .u16 ss ∧ i = .int .i64 x ∧ Hid (ee = eM (p 0) (p 1) y x ∧ ss = sM (p 0) (p 1) y x) ∧ Hid (∀ j, j < x → gOk p y j = true) ∧ Own w.heap.size [] w wi [(g1, 32, cs)])
    case atStart => exact ⟨0, 0, 0, by omega, rfl, rfl, rfl, rfl, ⟨rfl, rfl⟩, (fun j hj => by omega), hL⟩
    case round =>
      clear hL
      obtain ⟨x, ee, ss, hx, rfl, rfl, rfl, rfl, HM, HG, hL⟩ := hrel
      by_cases hlx : x < 10
      · have hxi : (x : Int) < 10 := by omega
        have hgr : cs[2 + y * 10 + x]? = some (.int .i16 (p (2 + y * 10 + x))) := HP.out.grass (2 + y * 10 + x) (by omega) (by omega)
        have hrg := HP.out.i16 (2 + y * 10 + x) (by omega) (by omega)
        obtain ⟨gg, hgg⟩ : ∃ gg, p (2 + y * 10 + x) = gg := ⟨_, rfl⟩
        have HGG := Lib.hid hgg
        rw [hgg] at hgr hrg
        clear hgg
        obtain ⟨c, hc⟩ : ∃ c, isC (p 0) (p 1) x y = c := ⟨_, rfl⟩
        have HC := Lib.hid hc
        have hgo : gOk p y x = inB gg 0 (if c then 1000 else 0) := by unfold gOk; rw [HGG.out, hc]
        obtain ⟨o, ho⟩ : ∃ o, gOk p y x = o := ⟨_, rfl⟩
        have HO := Lib.hid ho
        have hin : inB gg 0 (if c then 1000 else 0) = o := hgo.symm.trans ho
        clear hgo ho
        cases c with
        | false =>
          rw [if_neg (by simp)] at hin
          cases o with
          | false =>
            have hv : validP p = false := validP_g hlt hlx HO.out
            go_wp2_with (first
              | (go_at_call 63; (with_reducible refine (isCell_any p cs x y _ HP.out (by omega) (by omega)).mono ?_); rintro e w4 ⟨rfl, hb⟩; rw [hc]; replace hL := hL.ext hb; clear hb)
              | (go_at_call 49; (with_reducible refine (within_any gg 0 0 _).mono ?_); rintro e w4 ⟨rfl, rfl⟩; rw [hin])
              | ((with_reducible refine gate_load (ty := 32) rfl ?_); refine wpl_loadW_0 hL rfl rfl (by kernel_rfl) rfl hsz (by kernel_rfl) ?_)
              | ((with_reducible refine gate_load (ty := 23) rfl ?_); refine wpl_load_0 hL rfl rfl (by kernel_rfl) rfl hgr ?_))
            go_ret
            exact ⟨by rw [hv]; rfl, hL.toBelow⟩
          | true =>
            go_wp2_with (first
              | (go_at_call 63; (with_reducible refine (isCell_any p cs x y _ HP.out (by omega) (by omega)).mono ?_); rintro e w4 ⟨rfl, hb⟩; rw [hc]; replace hL := hL.ext hb; clear hb)
              | (go_at_call 49; (with_reducible refine (within_any gg 0 0 _).mono ?_); rintro e w4 ⟨rfl, rfl⟩; rw [hin])
              | ((with_reducible refine gate_load (ty := 32) rfl ?_); refine wpl_loadW_0 hL rfl rfl (by kernel_rfl) rfl hsz (by kernel_rfl) ?_)
              | ((with_reducible refine gate_load (ty := 23) rfl ?_); refine wpl_load_0 hL rfl rfl (by kernel_rfl) rfl hgr ?_))
            go_roundg (10 - (x + 1))
            case measure => omega
            case rel => exact ⟨x + 1, ee, ss, by omega, rfl, rfl, rfl, by go_num, ⟨by rw [HM.out.1, eM, if_neg (by rw [HC.out]; simp)], by rw [HM.out.2, sM, if_neg (by rw [HC.out]; simp)]⟩, upTo_step HG.out HO.out, hL⟩
        | true =>
          rw [if_pos rfl] at hin
          obtain ⟨c1, hc1⟩ : ∃ c1, isC (p 0) (p 1) (x + 1) y = c1 := ⟨_, rfl⟩
          obtain ⟨c2, hc2⟩ : ∃ c2, isC (p 0) (p 1) x (y + 1) = c2 := ⟨_, rfl⟩
          obtain ⟨d1, hd1⟩ : ∃ d1, bt c1 = d1 := ⟨_, rfl⟩
          obtain ⟨d2, hd2⟩ : ∃ d2, bt c2 = d2 := ⟨_, rfl⟩
          have hr1 := bt_le c1
          have hr2 := bt_le c2
          rw [hd1] at hr1
          rw [hd2] at hr2
          cases o with
          | false =>
            have hv : validP p = false := validP_g hlt hlx HO.out
            go_wp2_with (first
              | (go_at_call 63; first
                | ((with_reducible refine (isCell_any p cs x y _ HP.out (by omega) (by omega)).mono ?_); rintro e w4 ⟨rfl, hb⟩; rw [hc]; replace hL := hL.ext hb; clear hb)
                | ((with_reducible refine (isCell_any p cs (x + 1) y _ HP.out (by omega) (by omega)).mono ?_); rintro e w4 ⟨rfl, hb⟩; rw [hc1]; replace hL := hL.ext hb; clear hb)
                | ((with_reducible refine (isCell_any p cs x (y + 1) _ HP.out (by omega) (by omega)).mono ?_); rintro e w4 ⟨rfl, hb⟩; rw [hc2]; replace hL := hL.ext hb; clear hb))
              | (go_at_call 94; first
                | ((with_reducible refine (bit_any c1 _).mono ?_); rintro e w4 ⟨rfl, rfl⟩; rw [hd1])
                | ((with_reducible refine (bit_any c2 _).mono ?_); rintro e w4 ⟨rfl, rfl⟩; rw [hd2]))
              | (go_at_call 49; (with_reducible refine (within_any gg 0 1000 _).mono ?_); rintro e w4 ⟨rfl, rfl⟩; rw [hin])
              | ((with_reducible refine gate_load (ty := 32) rfl ?_); refine wpl_loadW_0 hL rfl rfl (by kernel_rfl) rfl hsz (by kernel_rfl) ?_)
              | ((with_reducible refine gate_load (ty := 23) rfl ?_); refine wpl_load_0 hL rfl rfl (by kernel_rfl) rfl hgr ?_))
            go_ret
            exact ⟨by rw [hv]; rfl, hL.toBelow⟩
          | true =>
            go_wp2_with (first
              | (go_at_call 63; first
                | ((with_reducible refine (isCell_any p cs x y _ HP.out (by omega) (by omega)).mono ?_); rintro e w4 ⟨rfl, hb⟩; rw [hc]; replace hL := hL.ext hb; clear hb)
                | ((with_reducible refine (isCell_any p cs (x + 1) y _ HP.out (by omega) (by omega)).mono ?_); rintro e w4 ⟨rfl, hb⟩; rw [hc1]; replace hL := hL.ext hb; clear hb)
                | ((with_reducible refine (isCell_any p cs x (y + 1) _ HP.out (by omega) (by omega)).mono ?_); rintro e w4 ⟨rfl, hb⟩; rw [hc2]; replace hL := hL.ext hb; clear hb))
              | (go_at_call 94; first
                | ((with_reducible refine (bit_any c1 _).mono ?_); rintro e w4 ⟨rfl, rfl⟩; rw [hd1])
                | ((with_reducible refine (bit_any c2 _).mono ?_); rintro e w4 ⟨rfl, rfl⟩; rw [hd2]))
              | (go_at_call 49; (with_reducible refine (within_any gg 0 1000 _).mono ?_); rintro e w4 ⟨rfl, rfl⟩; rw [hin])
              | ((with_reducible refine gate_load (ty := 32) rfl ?_); refine wpl_loadW_0 hL rfl rfl (by kernel_rfl) rfl hsz (by kernel_rfl) ?_)
              | ((with_reducible refine gate_load (ty := 23) rfl ?_); refine wpl_load_0 hL rfl rfl (by kernel_rfl) rfl hgr ?_))
            go_roundg (10 - (x + 1))
            case measure => omega
            case rel => exact ⟨x + 1, _, _, by omega, rfl, rfl, rfl, by go_num, ⟨by rw [HM.out.1, eM, if_pos HC.out, hc1, hd1], by rw [HM.out.2, sM, if_pos HC.out, hc2, hd2]⟩, upTo_step HG.out HO.out, hL⟩
      · have hx10 : x = 10 := by omega
        subst hx10
        have hE := HP.out.side (102 + y) (by omega) (by omega)
        have hS := HP.out.side (112 + y) (by omega) (by omega)
        obtain ⟨o1, ho1⟩ : ∃ o1, eOk p y = o1 := ⟨_, rfl⟩
        obtain ⟨o2, ho2⟩ : ∃ o2, sOk p y = o2 := ⟨_, rfl⟩
        have HO1 := Lib.hid ho1
        have HO2 := Lib.hid ho2
        unfold eOk at ho1
        unfold sOk at ho2
        rw [← HM.out.1] at ho1
        rw [← HM.out.2] at ho2
        cases o1 with
        | false =>
          have hv : validP p = false := validP_e hlt HO1.out
          clear ho2
          rw [decide_eq_false_iff_not] at ho1
          go_wp2_with (first
            | ((with_reducible refine gate_load rfl ?_); refine wpl_load_0 hL rfl rfl (by kernel_rfl) rfl hE ?_))
          go_ret
          exact ⟨by rw [hv]; rfl, hL.toBelow⟩
        | true =>
          rw [decide_eq_true_eq] at ho1
          cases o2 with
          | false =>
            rw [decide_eq_false_iff_not] at ho2
            have hv : validP p = false := validP_s hlt HO2.out
            go_wp2_with (first
              | ((with_reducible refine gate_load rfl ?_); (with_reducible refine wpl_ungate ?_ ?_); first | (kernel_rfl) | skip)
              | ((with_reducible refine gate_load rfl ?_); first | (refine wpl_load_0 hL rfl rfl (by kernel_rfl) rfl hE ?_) | (refine wpl_load_0 hL rfl rfl (by kernel_rfl) rfl hS ?_)))
            go_ret
            exact ⟨by rw [hv]; rfl, hL.toBelow⟩
          | true =>
            rw [decide_eq_true_eq] at ho2
            go_wp2_with (first
              | ((with_reducible refine gate_load rfl ?_); (with_reducible refine wpl_ungate ?_ ?_); first | (kernel_rfl) | skip)
              | ((with_reducible refine gate_load rfl ?_); first | (refine wpl_load_0 hL rfl rfl (by kernel_rfl) rfl hE ?_) | (refine wpl_load_0 hL rfl rfl (by kernel_rfl) rfl hS ?_)))
            go_roundg (10 - (y + 1))
            case measure => omega
            case rel => exact ⟨y + 1, by omega, rfl, by go_num, upTo_step HA.out (row_mk HG.out HO1.out HO2.out), hL⟩
end Go.Proofs.Ytnafnhpajkhgkaa
