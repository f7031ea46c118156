import Derived.Test.YtnafnhpajkhgkaaQY07
/- Pastures: the reference's validity. No condition. -/
namespace Go.Proofs.Ytnafnhpajkhgkaa
set_option linter.unusedVariables false
set_option linter.unusedSimpArgs false
open Go.RowKit Mem
attribute [local irreducible] Calm.wpLex
def rW (a : Nat) : Int := IntKind.u16.wrap (IntKind.u16.wrap (2 ^ a) - 1)
set_option maxRecDepth 100000 in
theorem eM_all : ∀ a : Fin 11, ∀ b : Fin 11, ∀ y : Fin 10, 1 ≤ a.1 → 1 ≤ b.1 → eM a.1 b.1 y.1 10 = if y.1 < b.1 then rW a.1 / 2 else 0 := by decide +kernel
set_option maxRecDepth 100000 in
theorem sM_all : ∀ a : Fin 11, ∀ b : Fin 11, ∀ y : Fin 10, 1 ≤ a.1 → 1 ≤ b.1 → sM a.1 b.1 y.1 10 = if y.1 + 1 < b.1 then rW a.1 else 0 := by decide +kernel
theorem eM_eq {a b y : Nat} (h1 : 1 ≤ a) (h2 : a ≤ 10) (h3 : 1 ≤ b) (h4 : b ≤ 10) (h5 : y < 10) : eM a b y 10 = if y < b then rW a / 2 else 0 := eM_all ⟨a, by omega⟩ ⟨b, by omega⟩ ⟨y, h5⟩ h1 h3
theorem sM_eq {a b y : Nat} (h1 : 1 ≤ a) (h2 : a ≤ 10) (h3 : 1 ≤ b) (h4 : b ≤ 10) (h5 : y < 10) : sM a b y 10 = if y + 1 < b then rW a else 0 := sM_all ⟨a, by omega⟩ ⟨b, by omega⟩ ⟨y, h5⟩ h1 h3

set_option maxRecDepth 100000 in
set_option maxHeartbeats 4000000 in
theorem l01Ok_any (p : Nat → Int) (cs : Array Value) (T : TypeId) (g : Nat) (w : World) (hp : Pv p cs) (hg : w.heap[g]? = some (.cells cs T (0, 0))) :
    Calls Try.prog 87 #[.pointer (some ⟨g, 0, none⟩)] w fun e w' => e = .returned (.bool (validP p)) ∧ Below w.heap.size w w' := by
  have hL := Own.startAt w hg
  have HP := Lib.hid hp
  have HW := Lib.hid hg
  have g0 := hp.g0
  have g1 := hp.g1
  have b0 := hp.i8 0 (by omega)
  have b1 := hp.i8 1 (by omega)
  have hsz := hp.size
  clear hp hg
  cases ha : inB (p 0) 1 10 with
  | false =>
    have hv : validP p = false := by unfold validP; rw [ha]; rfl
    rw [hv]
    go_enter Try.func87, Try.ntmps87
    go_wp2_with (first
      | (go_at_call 46; (with_reducible refine (l00In_any (p 0) 1 10 _).mono ?_); rintro e w4 ⟨rfl, rfl⟩; rw [ha])
      | ((with_reducible refine gate_load rfl ?_); first | (refine wpl_load_0 hL rfl rfl (by kernel_rfl) rfl (by first | rfl | assumption) ?_)))
    go_ret
    exact ⟨rfl, hL.toBelow1 HW.out (hL.at_ (i := 0) rfl)⟩
  | true =>
  cases hb : inB (p 1) 1 10 with
  | false =>
    have hv : validP p = false := by unfold validP; rw [ha, hb]; rfl
    rw [hv]
    go_enter Try.func87, Try.ntmps87
    go_wp2_with (first
      | (go_at_call 46; (with_reducible refine (l00In_any (p 0) 1 10 _).mono ?_); rintro e w4 ⟨rfl, rfl⟩; rw [ha])
      | (go_at_call 46; (with_reducible refine (l00In_any (p 1) 1 10 _).mono ?_); rintro e w4 ⟨rfl, rfl⟩; rw [hb])
      | ((with_reducible refine gate_load rfl ?_); (with_reducible refine wpl_ungate ?_ ?_); first | (kernel_rfl) | skip)
      | ((with_reducible refine gate_load rfl ?_); first | (refine wpl_load_0 hL rfl rfl (by kernel_rfl) rfl (by first | rfl | assumption) ?_)))
    go_ret
    exact ⟨rfl, hL.toBelow1 HW.out (hL.at_ (i := 0) rfl)⟩
  | true =>
  have HA0 := Lib.hid ha
  have HB0 := Lib.hid hb
  have ra : 1 ≤ p 0 ∧ p 0 ≤ 10 := by simpa [inB] using ha
  have rb : 1 ≤ p 1 ∧ p 1 ≤ 10 := by simpa [inB] using hb
  obtain ⟨a, hae⟩ : ∃ a : Nat, p 0 = a := ⟨(p 0).toNat, by omega⟩
  obtain ⟨b, hbe⟩ : ∃ b : Nat, p 1 = b := ⟨(p 1).toNat, by omega⟩
  have HAE := Lib.hid hae
  have HBE := Lib.hid hbe
  rw [hae] at ha g0 ra
  rw [hbe] at hb g1 rb
  clear hae hbe b0 b1
  go_enter Try.func87, Try.ntmps87
  go_wp2_with (first
    | (go_at_call 46; (with_reducible refine (l00In_any a 1 10 _).mono ?_); rintro e w4 ⟨rfl, rfl⟩; rw [ha])
    | (go_at_call 46; (with_reducible refine (l00In_any b 1 10 _).mono ?_); rintro e w4 ⟨rfl, rfl⟩; rw [hb])
    | ((with_reducible refine gate_load rfl ?_); (with_reducible refine wpl_ungate ?_ ?_); first | (kernel_rfl) | skip)
    | ((with_reducible refine gate_load rfl ?_); first | (refine wpl_load_0 hL rfl rfl (by kernel_rfl) rfl (by first | rfl | assumption) ?_)))
  go_loopg [3] 10 (fun n i wr => ∃ (y : Nat), y ≤ 10 ∧ n = 10 - y ∧ i = .int .i8 y ∧ Hid (∀ j, j < y → rowOk p j = true) ∧ Own w.heap.size [g] w wr [(g, T, cs)])
  case atStart => exact ⟨0, by omega, rfl, rfl, (fun j hj => by omega), hL⟩
  case round =>
    clear hL
    obtain ⟨y, hy, rfl, rfl, HA, hL⟩ := hrel
    by_cases hlt : y < 10
    case neg =>
      have hv : validP p = true := valid_mk HA0.out HB0.out (fun j hj => HA.out j (by omega))
      go_wp2
      go_ret
      exact ⟨by first | (rw [hv]; rfl) | rfl, hL.toBelow1 HW.out (hL.at_ (i := 0) rfl)⟩
    have hyi : (y : Int) < 10 := by omega
    go_wp2
    go_loopg [4] 10 (fun n i wi => ∃ (x : Nat), x ≤ 10 ∧ n = 10 - x ∧ i = .int .i8 x ∧ Hid (∀ j, j < x → gOk p y j = true) ∧ Own w.heap.size [g] w wi [(g, T, cs)])
    case atStart => exact ⟨0, by omega, rfl, rfl, (fun j hj => by omega), hL⟩
    case round =>
      clear hL
      obtain ⟨x, hx, rfl, rfl, HG, hL⟩ := hrel
      by_cases hlx : x < 10
      · have hxi : (x : Int) < 10 := by omega
        have hgr : cs[2 + y * 10 + x]? = some (.int .i16 (p (2 + y * 10 + x))) := HP.out.grass (2 + y * 10 + x) (by omega) (by omega)
        have hrg := HP.out.i16 (2 + y * 10 + x) (by omega) (by omega)
        obtain ⟨gg, hgg⟩ : ∃ gg, p (2 + y * 10 + x) = gg := ⟨_, rfl⟩
        have HGG := Lib.hid hgg
        rw [hgg] at hgr hrg
        clear hgg
        obtain ⟨c, hc⟩ : ∃ c, isC (p 0) (p 1) x y = c := ⟨_, rfl⟩
        have HC := Lib.hid hc
        have hgo : gOk p y x = inB gg 0 (if c then 1000 else 0) := by unfold gOk; rw [HGG.out, hc]
        obtain ⟨o, ho⟩ : ∃ o, gOk p y x = o := ⟨_, rfl⟩
        have HO := Lib.hid ho
        have hin : inB gg 0 (if c then 1000 else 0) = o := hgo.symm.trans ho
        clear hgo ho hc
        cases h1 : inB gg 0 1000 with
        | false =>
          have hv : validP p = false := validP_g hlt hlx (by
            rw [HO.out, ← hin]
            cases c
            · simp [inB] at h1 ⊢; omega
            · exact h1)
          go_wp2_with (first
            | (go_at_call 105; (with_reducible refine (l01Grass_any gg _).mono ?_); rintro e w4 ⟨rfl, rfl⟩; rw [h1])
            | ((with_reducible refine gate_load rfl ?_); refine wpl_load_0 hL rfl rfl (by kernel_rfl) rfl hgr ?_))
          go_ret
          exact ⟨by first | (rw [hv]; rfl) | rfl, hL.toBelow1 HW.out (hL.at_ (i := 0) rfl)⟩
        | true =>
          have r1 : 0 ≤ gg ∧ gg ≤ 1000 := by simpa [inB] using h1
          by_cases h0 : 0 < gg
          · cases c with
            | false =>
              have ho : o = false := by rw [← hin]; simp [inB]; omega
              have hv : validP p = false := validP_g hlt hlx (HO.out.trans ho)
              go_wp2_with (first
                | (go_at_call 105; (with_reducible refine (l01Grass_any gg _).mono ?_); rintro e w4 ⟨rfl, rfl⟩; rw [h1])
                | (go_at_call 88; (with_reducible refine (l01Is_any p cs T g x y _ HP.out (hL.at_ (i := 0) rfl) (by rw [HAE.out]; omega) (by rw [HBE.out]; omega) (by omega) (by omega)).mono ?_); rintro e w4 ⟨rfl, hb⟩; rw [HC.out]; replace hL := hL.ext hb; clear hb)
                | ((with_reducible refine gate_load rfl ?_); refine wpl_load_0 hL rfl rfl (by kernel_rfl) rfl hgr ?_))
              go_ret
              exact ⟨by first | (rw [hv]; rfl) | rfl, hL.toBelow1 HW.out (hL.at_ (i := 0) rfl)⟩
            | true =>
              have ho : o = true := by rw [← hin]; simp [inB]; omega
              go_wp2_with (first
                | (go_at_call 105; (with_reducible refine (l01Grass_any gg _).mono ?_); rintro e w4 ⟨rfl, rfl⟩; rw [h1])
                | (go_at_call 88; (with_reducible refine (l01Is_any p cs T g x y _ HP.out (hL.at_ (i := 0) rfl) (by rw [HAE.out]; omega) (by rw [HBE.out]; omega) (by omega) (by omega)).mono ?_); rintro e w4 ⟨rfl, hb⟩; rw [HC.out]; replace hL := hL.ext hb; clear hb)
                | ((with_reducible refine gate_load rfl ?_); refine wpl_load_0 hL rfl rfl (by kernel_rfl) rfl hgr ?_))
              go_roundg (10 - (x + 1))
              case measure => omega
              case rel => exact ⟨x + 1, by omega, rfl, by go_num, upTo_step HG.out (HO.out.trans ho), hL⟩
          · have ho : o = true := by rw [← hin]; cases c <;> simp [inB] <;> omega
            go_wp2_with (first
              | (go_at_call 105; (with_reducible refine (l01Grass_any gg _).mono ?_); rintro e w4 ⟨rfl, rfl⟩; rw [h1])
              | ((with_reducible refine gate_load rfl ?_); refine wpl_load_0 hL rfl rfl (by kernel_rfl) rfl hgr ?_))
            go_roundg (10 - (x + 1))
            case measure => omega
            case rel => exact ⟨x + 1, by omega, rfl, by go_num, upTo_step HG.out (HO.out.trans ho), hL⟩
      · have hx10 : x = 10 := by omega
        subst hx10
        have hE := HP.out.side (102 + y) (by omega) (by omega)
        have hS := HP.out.side (112 + y) (by omega) (by omega)
        have hem := eM_eq (a := a) (b := b) (y := y) (by omega) (by omega) (by omega) (by omega) hlt
        have hsm := sM_eq (a := a) (b := b) (y := y) (by omega) (by omega) (by omega) (by omega) hlt
        have he : eOk p y = decide (bits .andNot .u16 (p (102 + y)) (if y < b then rW a / 2 else 0) = 0) := by unfold eOk; rw [HAE.out, HBE.out, hem]
        have hs : sOk p y = decide (bits .andNot .u16 (p (112 + y)) (if y + 1 < b then rW a else 0) = 0) := by unfold sOk; rw [HAE.out, HBE.out, hsm]
        clear hem hsm
        unfold rW at he hs
        obtain ⟨o1, ho1⟩ : ∃ o1, eOk p y = o1 := ⟨_, rfl⟩
        obtain ⟨o2, ho2⟩ : ∃ o2, sOk p y = o2 := ⟨_, rfl⟩
        have HO1 := Lib.hid ho1
        have HO2 := Lib.hid ho2
        rw [he] at ho1
        rw [hs] at ho2
        clear he hs
        by_cases hyb : (y : Int) < b
        · rw [if_pos (by omega)] at ho1
          by_cases hyb1 : (y : Int) < b - 1
          · rw [if_pos (by omega)] at ho2
            cases o1 with
            | false =>
              have hv : validP p = false := validP_e hlt HO1.out
              rw [decide_eq_false_iff_not] at ho1
              clear ho2
              go_wp2_with (first
                | ((with_reducible refine gate_load rfl ?_); first | (refine wpl_load_0 hL rfl rfl (by kernel_rfl) rfl g0 ?_) | (refine wpl_load_0 hL rfl rfl (by kernel_rfl) rfl g1 ?_) | (refine wpl_load_0 hL rfl rfl (by kernel_rfl) rfl hE ?_) | (refine wpl_load_0 hL rfl rfl (by kernel_rfl) rfl hS ?_)))
              go_ret
              exact ⟨by first | (rw [hv]; rfl) | rfl, hL.toBelow1 HW.out (hL.at_ (i := 0) rfl)⟩
            | true =>
              rw [decide_eq_true_eq] at ho1
              cases o2 with
              | false =>
                have hv : validP p = false := validP_s hlt HO2.out
                rw [decide_eq_false_iff_not] at ho2
                go_wp2_with (first
                  | ((with_reducible refine gate_load rfl ?_); first | (refine wpl_load_0 hL rfl rfl (by kernel_rfl) rfl g0 ?_) | (refine wpl_load_0 hL rfl rfl (by kernel_rfl) rfl g1 ?_) | (refine wpl_load_0 hL rfl rfl (by kernel_rfl) rfl hE ?_) | (refine wpl_load_0 hL rfl rfl (by kernel_rfl) rfl hS ?_)))
                go_ret
                exact ⟨by first | (rw [hv]; rfl) | rfl, hL.toBelow1 HW.out (hL.at_ (i := 0) rfl)⟩
              | true =>
                rw [decide_eq_true_eq] at ho2
                go_wp2_with (first
                  | ((with_reducible refine gate_load rfl ?_); first | (refine wpl_load_0 hL rfl rfl (by kernel_rfl) rfl g0 ?_) | (refine wpl_load_0 hL rfl rfl (by kernel_rfl) rfl g1 ?_) | (refine wpl_load_0 hL rfl rfl (by kernel_rfl) rfl hE ?_) | (refine wpl_load_0 hL rfl rfl (by kernel_rfl) rfl hS ?_)))
                go_roundg (10 - (y + 1))
                case measure => omega
                case rel => exact ⟨y + 1, by omega, rfl, by go_num, upTo_step HA.out (row_mk HG.out HO1.out HO2.out), hL⟩
          · rw [if_neg (by omega)] at ho2
            cases o1 with
            | false =>
              have hv : validP p = false := validP_e hlt HO1.out
              rw [decide_eq_false_iff_not] at ho1
              clear ho2
              go_wp2_with (first
                | ((with_reducible refine gate_load rfl ?_); first | (refine wpl_load_0 hL rfl rfl (by kernel_rfl) rfl g0 ?_) | (refine wpl_load_0 hL rfl rfl (by kernel_rfl) rfl g1 ?_) | (refine wpl_load_0 hL rfl rfl (by kernel_rfl) rfl hE ?_) | (refine wpl_load_0 hL rfl rfl (by kernel_rfl) rfl hS ?_)))
              go_ret
              exact ⟨by first | (rw [hv]; rfl) | rfl, hL.toBelow1 HW.out (hL.at_ (i := 0) rfl)⟩
            | true =>
              rw [decide_eq_true_eq] at ho1
              cases o2 with
              | false =>
                have hv : validP p = false := validP_s hlt HO2.out
                rw [decide_eq_false_iff_not] at ho2
                go_wp2_with (first
                  | ((with_reducible refine gate_load rfl ?_); first | (refine wpl_load_0 hL rfl rfl (by kernel_rfl) rfl g0 ?_) | (refine wpl_load_0 hL rfl rfl (by kernel_rfl) rfl g1 ?_) | (refine wpl_load_0 hL rfl rfl (by kernel_rfl) rfl hE ?_) | (refine wpl_load_0 hL rfl rfl (by kernel_rfl) rfl hS ?_)))
                go_ret
                exact ⟨by first | (rw [hv]; rfl) | rfl, hL.toBelow1 HW.out (hL.at_ (i := 0) rfl)⟩
              | true =>
                rw [decide_eq_true_eq] at ho2
                go_wp2_with (first
                  | ((with_reducible refine gate_load rfl ?_); first | (refine wpl_load_0 hL rfl rfl (by kernel_rfl) rfl g0 ?_) | (refine wpl_load_0 hL rfl rfl (by kernel_rfl) rfl g1 ?_) | (refine wpl_load_0 hL rfl rfl (by kernel_rfl) rfl hE ?_) | (refine wpl_load_0 hL rfl rfl (by kernel_rfl) rfl hS ?_)))
                go_roundg (10 - (y + 1))
                case measure => omega
                case rel => exact ⟨y + 1, by omega, rfl, by go_num, upTo_step HA.out (row_mk HG.out HO1.out HO2.out), hL⟩
        · rw [if_neg (by omega)] at ho1
          have hyb1 : ¬ (y : Int) < b - 1 := by omega
          rw [if_neg (by omega)] at ho2
          cases o1 with
          | false =>
            have hv : validP p = false := validP_e hlt HO1.out
            rw [decide_eq_false_iff_not] at ho1
            clear ho2
            go_wp2_with (first
              | ((with_reducible refine gate_load rfl ?_); first | (refine wpl_load_0 hL rfl rfl (by kernel_rfl) rfl g0 ?_) | (refine wpl_load_0 hL rfl rfl (by kernel_rfl) rfl g1 ?_) | (refine wpl_load_0 hL rfl rfl (by kernel_rfl) rfl hE ?_) | (refine wpl_load_0 hL rfl rfl (by kernel_rfl) rfl hS ?_)))
            go_ret
            exact ⟨by first | (rw [hv]; rfl) | rfl, hL.toBelow1 HW.out (hL.at_ (i := 0) rfl)⟩
          | true =>
            rw [decide_eq_true_eq] at ho1
            cases o2 with
            | false =>
              have hv : validP p = false := validP_s hlt HO2.out
              rw [decide_eq_false_iff_not] at ho2
              go_wp2_with (first
                | ((with_reducible refine gate_load rfl ?_); first | (refine wpl_load_0 hL rfl rfl (by kernel_rfl) rfl g0 ?_) | (refine wpl_load_0 hL rfl rfl (by kernel_rfl) rfl g1 ?_) | (refine wpl_load_0 hL rfl rfl (by kernel_rfl) rfl hE ?_) | (refine wpl_load_0 hL rfl rfl (by kernel_rfl) rfl hS ?_)))
              go_ret
              exact ⟨by first | (rw [hv]; rfl) | rfl, hL.toBelow1 HW.out (hL.at_ (i := 0) rfl)⟩
            | true =>
              rw [decide_eq_true_eq] at ho2
              go_wp2_with (first
                | ((with_reducible refine gate_load rfl ?_); first | (refine wpl_load_0 hL rfl rfl (by kernel_rfl) rfl g0 ?_) | (refine wpl_load_0 hL rfl rfl (by kernel_rfl) rfl g1 ?_) | (refine wpl_load_0 hL rfl rfl (by kernel_rfl) rfl hE ?_) | (refine wpl_load_0 hL rfl rfl (by kernel_rfl) rfl hS ?_)))
              go_roundg (10 - (y + 1))
              case measure => omega
              case rel => exact ⟨y + 1, by omega, rfl, by go_num, upTo_step HA.out (row_mk HG.out HO1.out HO2.out), hL⟩
end Go.Proofs.Ytnafnhpajkhgkaa
