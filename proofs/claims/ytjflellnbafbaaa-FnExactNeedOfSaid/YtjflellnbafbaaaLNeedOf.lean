/- NeedOf: the program's and the reference's return the same, for all arguments: no condition. -/
import Derived.Test.YtjflellnbafbaaaRows
import Derived.Test.YtjflellnbafbaaaNeed
namespace Go.Proofs.Ytjflellnbafbaaa
set_option linter.unusedVariables false
set_option linter.unusedSimpArgs false
open Go.RowKit Mem

set_option maxRecDepth 100000 in
set_option maxHeartbeats 1000000 in
theorem FnExactNeedOf_walk (p0 : Nat → Int) (c0 : Array Value) (v1 : Value) (l1 : List Gt) (w : World) (hp0 : Pv p0 c0) (hl1 : Sl w 7 v1 (l1.map Gt.cells)) (ho1 : ∀ s ∈ l1, s.ok) :
    Calls Try.prog 8 #[.agg c0, v1] w fun e w' => e = .returned (.bool true) ∧ Below w.heap.size w w' := by
  have hL := Own.start w
  have HP := Lib.hid hp0
  have S1 := Lib.hid hl1
  have hsz := hp0.size
  clear hl1 hp0
  by_cases h1 : (l1.length : Int) ≤ 1048576
  case neg =>
    go_enter Try.func8, Try.ntmps8
    go_wp2_with (first
      | ((with_reducible refine gate_dst (N := 2) rfl ?_); refine wpl_box (cs := c0) hL rfl rfl rfl ?_; clear hL; intro g2 w2 hL)
      | (go_at_call 26; refine halt ?_))
    refine halt_on ((szGoatS_any v1 l1 1048576 _ (S1.out.below hL.toBelow) (by decide) (by decide)).mono ?_)
    rintro e w4 ⟨rfl, rfl⟩
    rw [if_neg (by omega)]
    go_wp2
    go_ret
    exact ⟨rfl, hL.toBelow⟩
  have hd1 : decide ((1048576 : Int) - l1.length < 0) = false := by simp; omega
  have hn1 : l1.length ≤ 1048576 := by omega
  go_enter Try.func8, Try.ntmps8
  go_wp2_with (first
    | ((with_reducible refine gate_dst (N := 2) rfl ?_); refine wpl_box (cs := c0) hL rfl rfl rfl ?_; clear hL; intro g2 w2 hL)
    | (go_at_call 26; refine halt ?_))
  refine halt_on ((szGoatS_any v1 l1 1048576 _ (S1.out.below hL.toBelow) (by decide) (by decide)).mono ?_)
  rintro e w4 ⟨rfl, rfl⟩
  rw [if_pos (by omega)]
  go_wp2_with (first
    | ((with_reducible refine gate_load rfl ?_); first | (refine wpl_loadW_0 hL rfl rfl (by kernel_rfl) rfl (by first | exact zr_size _ _ | assumption | rfl) (by kernel_rfl) ?_))
    | (go_at_call 24; (with_reducible refine (toPasture_any p0 c0 _ HP.out).mono ?_); rintro e w4 ⟨rfl, hb⟩; replace hL := hL.ext hb; clear hb)
    | (go_at_call 28; refine halt ?_))
  refine halt_on ((toGoatS_any v1 l1 _ (S1.out.below hL.toBelow) hn1).mono ?_)
  rintro e w5 ⟨u1, rfl, U1, hb⟩; replace U1 := Lib.hid U1; replace hL := hL.ext hb; clear hb
  go_wp2_with (first
    | (go_at_call 35; refine halt ?_))
  refine halt_on ((specNeedOf_any p0 c0 u1 l1 _ HP.out U1.out ho1).mono ?_)
  rintro e w6 ⟨rfl, hb⟩; rw [needOf_eq]; replace hL := hL.ext hb; clear hb
  clear U1
  go_wp2_with (first
    | (go_at_call 28; refine halt ?_))
  refine halt_on ((toGoatS_any v1 l1 _ (S1.out.below hL.toBelow) hn1).mono ?_)
  rintro e w5 ⟨u1, rfl, U1, hb⟩; replace U1 := Lib.hid U1; replace hL := hL.ext hb; clear hb
  go_wp2_with (first
    | ((with_reducible refine gate_load rfl ?_); first | (refine wpl_loadW_0 hL rfl rfl (by kernel_rfl) rfl (by first | exact zr_size _ _ | assumption | rfl) (by kernel_rfl) ?_))
    | (go_at_call 24; (with_reducible refine (toPasture_any p0 c0 _ HP.out).mono ?_); rintro e w4 ⟨rfl, hb⟩; replace U1 := Lib.hid (U1.out.below hb); replace hL := hL.ext hb; clear hb)
    | (go_at_call 36; refine halt ?_))
  refine halt_on ((implNeedOf_any p0 c0 u1 l1 _ HP.out U1.out ho1).mono ?_)
  rintro e w6 ⟨rfl, hb⟩; rw [needOf_eq]; replace U1 := Lib.hid (U1.out.below hb); replace hL := hL.ext hb; clear hb
  go_wp2_with (first
    | (go_at_call 28; refine halt ?_))
  refine halt_on ((toGoatS_any v1 l1 _ (S1.out.below hL.toBelow) hn1).mono ?_)
  rintro e w5 ⟨t1, rfl, T1, hb⟩; replace T1 := Lib.hid T1; replace U1 := Lib.hid (U1.out.below hb); replace hL := hL.ext hb; clear hb
  go_wp2_with (first
    | (go_at_call 30; refine halt ?_))
  refine halt_on ((eqGoatS_same u1 t1 l1 _ U1.out T1.out hn1).mono ?_)
  rintro e w6 ⟨rfl, hb⟩; replace hL := hL.ext hb; clear hb
  go_wp2
  go_ret
  exact ⟨rfl, hL.toBelow⟩
namespace FnExactNeedOfRow
open Go.ChangeShapes Go.WideShapes Go.ChangeAt Go.RowKit
theorem own : ownKnob Try.prog.godebug = none := by kernel_rfl
theorem laidOut : laidOutB Try.prog = true := by kernel_rfl
set_option maxRecDepth 100000 in
set_option maxHeartbeats 1000000 in
theorem lifted (os : Os) (started : os.Started) (H : Type) (enc : TypeId × Value → H) :
    ReturnsInHanded {} Try.checked os 8 .any (Rows.fnExactNeedOfSpec.pre6 enc Try.prog Try.f8 Rows.fnExactNeedOfRow.domain false) (Rows.fnExactNeedOfSpec.post enc Try.prog Try.f8 false true false false) := by
  refine returnsInHanded_of_change (C := Try.checked) own started (by kernel_rfl) Try.func8
    (ChangeSpec.witness6 (enc := enc) (C := Try.checked) false ⟨#[], #[.agg zP, .slice none 0 0], []⟩ 8 (by kernel_rfl) (by kernel_rfl) (by kernel_rfl) (by kernel_rfl)) ?_
  intro W base args ds gs before hval0 hW hcnd _
  have hval : ∀ (j : Nat) t v, Try.f8.params[j]? = some t → args[j]? = some v → Value.okWide Try.prog W .any base t v := hval0
  have hW' := hW
  obtain ⟨p, q, hA0, hV, rfl, hfz, hnd⟩ := hW
  have hA : DataW.TrodAll enc Try.prog W 0 (fun _ => true) true Try.f8.params.toList args.toList ds p := hA0
  rw [Try.params8] at hA hval
  obtain ⟨v0, vs0, d0, ds0, p0, q0, hargs, rfl, rfl, h0, r0⟩ := trodAll_cons hA
  obtain ⟨v1, vs1, d1, ds1, p1, q1, rfl, rfl, rfl, h1, r1⟩ := trodAll_cons r0
  obtain ⟨rfl, rfl, rfl⟩ := trodAll_nil r1
  obtain rfl : args = #[v0, v1] := by cases args; simp_all
  obtain ⟨rfl, rfl⟩ := trodVars_none hV
  have k0 := h0
  have lt0 : ∀ x ∈ p0, x.block < W.heap.size := by obtain ⟨m, hm⟩ := k0; exact DataW.trod_lt m _ _ _ hm
  have k1 := h1
  have lt1 : ∀ x ∈ p1, x.block < W.heap.size := by obtain ⟨m, hm⟩ := k1; exact DataW.trod_lt m _ _ _ hm
  obtain ⟨c0, rfl, hs0, hf0⟩ := open_flat (n := 5) (ks := pasK) (by kernel_rfl) (by kernel_rfl) (by kernel_rfl) (hval 0 _ v0 rfl rfl) h0
  obtain ⟨p0', hp0⟩ := pv_of_flat hs0 hf0
  obtain ⟨xs1, hl1, hf1⟩ := open_flat_slice (n := 5) (ks := gtK) Try.underlying46 (by kernel_rfl) (by kernel_rfl) (by decide) (hval 1 _ v1 rfl rfl) h1
  obtain ⟨l1, rfl, ho1⟩ := list_of_cells (f := Gt.cells) (p := Gt.ok) xs1 (fun c hc => by
    obtain ⟨hcl, _⟩ := sl_elem hl1 c hc
    exact gt_of_flat hcl (hf1 c hc))
  clear hA0 hval0
  refine (FnExactNeedOf_walk p0' c0 v1 l1 W hp0 hl1 ho1).mono fun e W' ⟨he, bel⟩ => ?_
  subst he
  exact ⟨_, rfl, _, _, _, [], _, [], hW', trodAll_mk1 (shut_bool Try.underlying4 _), (trodAll_cons_mk (Below.trod laidOut (by kernel_rfl) (of_decide_eq_true (by kernel_rfl)) k0 bel lt0) (trodAll_cons_mk (Below.trod laidOut (by kernel_rfl) (of_decide_eq_true (by kernel_rfl)) k1 bel lt1) trodAll_mk0)), rfl, bel.frame _, fun h => by cases h⟩
theorem over : Rows.fnExactNeedOfRow.holds Try.pinned (OpenSpec.ofChange Rows.fnExactNeedOfSpec) :=
  OpenClaim.holds_of_wide 8 Try.f8 rfl rfl rfl rfl rfl rfl rfl ⟨rfl, rfl, rfl, rfl, rfl⟩ rfl rfl rfl rfl rfl (by kernel_rfl) Try.func8 (by kernel_rfl)
    (of_decide_eq_true (by kernel_rfl)) (by unfold Func.isWrapper; first | (rw [if_pos (by decide +kernel)]; kernel_rfl) | (rw [if_neg (by decide +kernel)]; exact ⟨rfl, rfl⟩))
    (fun os started H enc _ => lifted os started H enc)
end FnExactNeedOfRow
theorem fnExactNeedOf_holds : Rows.FnExactNeedOfSaid := FnExactNeedOfRow.over
#print axioms fnExactNeedOf_holds
end Go.Proofs.Ytjflellnbafbaaa
