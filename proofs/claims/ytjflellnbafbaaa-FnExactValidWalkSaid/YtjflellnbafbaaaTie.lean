/- TieGoat. No condition. -/
import Derived.Test.YtjflellnbafbaaaNeed
namespace Go.Proofs.Ytjflellnbafbaaa
set_option linter.unusedVariables false
set_option linter.unusedSimpArgs false
open Go.RowKit Mem
attribute [local irreducible] Calm.wpLex

set_option maxRecDepth 100000 in
set_option maxHeartbeats 1000000 in
theorem firstOf2_any (a b : Int) (g : Nat) (T : TypeId) (w : World) (hg : w.heap[g]? = some (.cells #[.int .i64 a, .int .i64 b] T (0, 0))) :
    Calls Try.prog 74 #[.slice (some ⟨g, 0, none⟩) 2 2] w fun e w' => e = .returned (.int .i64 (if a = 0 then b else a)) ∧ w = w' := by
  have h0 : Hid (w.cell? ⟨g, 0, none⟩ = some (.int .i64 a)) := by show w.cell? _ = _; rw [cell_of_row w g 0 _ T (0, 0) hg]; rfl
  have h1 : Hid (w.cell? ⟨g, 1, none⟩ = some (.int .i64 b)) := by show w.cell? _ = _; rw [cell_of_row w g 1 _ T (0, 0) hg]; rfl
  go_enter Try.func74, Try.ntmps74
  go_wp2
  go_loopg [7] 2 (fun n i wr => ∃ (k : Nat), k ≤ 2 ∧ n = 2 - k ∧ i = .int .i64 k ∧ Hid ((0 < k → a = 0) ∧ (1 < k → b = 0)) ∧ w = wr)
  case atStart => exact ⟨0, by omega, rfl, rfl, ⟨fun h => by omega, fun h => by omega⟩, rfl⟩
  case round =>
    obtain ⟨k, hk, rfl, rfl, HK, rfl⟩ := hrel
    match k, hk with
    | 0, _ =>
      by_cases ha : a = 0
      · have HA := Lib.hid ha
        go_wp2_with (first
          | ((with_reducible refine gate_load rfl ?_); (refine wpl_load1 rfl rfl (by kernel_rfl) rfl (h0.out) ?_)))
        go_roundg 1
        case measure => omega
        case rel => exact ⟨1, by omega, rfl, by go_num, ⟨fun _ => HA.out, fun h => by omega⟩, rfl⟩
      · have HA := Lib.hid ha
        go_wp2_with (first
          | ((with_reducible refine gate_load rfl ?_); (refine wpl_load1 rfl rfl (by kernel_rfl) rfl (h0.out) ?_)))
        go_ret
        exact ⟨by first | (rw [if_neg HA.out]; rfl) | rfl, rfl⟩
    | 1, _ =>
      have HA := Lib.hid (HK.out.1 (by omega))
      by_cases hb : b = 0
      · have HB := Lib.hid hb
        go_wp2_with (first
          | ((with_reducible refine gate_load rfl ?_); (refine wpl_load1 rfl rfl (by kernel_rfl) rfl (h1.out) ?_)))
        go_roundg 0
        case measure => omega
        case rel => exact ⟨2, by omega, rfl, by go_num, ⟨fun _ => HA.out, fun _ => HB.out⟩, rfl⟩
      · have HB := Lib.hid hb
        go_wp2_with (first
          | ((with_reducible refine gate_load rfl ?_); (refine wpl_load1 rfl rfl (by kernel_rfl) rfl (h1.out) ?_)))
        go_ret
        exact ⟨by first | (rw [if_pos HA.out]; rfl) | rfl, rfl⟩
    | 2, _ =>
      have HA := Lib.hid (HK.out.1 (by omega))
      have HB := Lib.hid (HK.out.2 (by omega))
      go_wp2
      go_ret
      exact ⟨by first | (rw [if_pos HA.out, HB.out]; rfl) | (rw [HB.out]; rfl) | rfl, rfl⟩
def tieC (p : Nat → Int) (g : Gt) (r : Int) : Int := if validGt p [g] then (if inB r 0 200 then 0 else 2) else 1
def tieV (p : Nat → Int) (x y u v rope eats likes r : Int) : Value :=
  .tuple #[.agg (if tieC p ⟨x, y, u, v, rope, eats, likes⟩ r = 0 then #[.int .i8 x, .int .i8 y, .int .i8 x, .int .i8 y, .int .i16 r, .int .i16 eats, .int .i8 likes] else #[.int .i8 0, .int .i8 0, .int .i8 0, .int .i8 0, .int .i16 0, .int .i16 0, .int .i8 0]), .int .i64 (tieC p ⟨x, y, u, v, rope, eats, likes⟩ r)]
theorem one_flat (g : Gt) (j : Nat) : (#[.int .i8 g.x, .int .i8 g.y, .int .i8 g.u, .int .i8 g.v, .int .i16 g.rope, .int .i16 g.eats, .int .i8 g.likes] : Array Value)[j]? = ([g].map Gt.cells).flatten[j]? := by
  simp [Gt.cells]
theorem one_sl {w : World} {b : Nat} {T : TypeId} (g : Gt) (h : w.heap[b]? = some (.cells #[.int .i8 g.x, .int .i8 g.y, .int .i8 g.u, .int .i8 g.v, .int .i16 g.rope, .int .i16 g.eats, .int .i8 g.likes] T (0, 0))) : Sl w 7 (.slice (some ⟨b, 0, none⟩) 1 1) ([g].map Gt.cells) :=
  Sl.of_block (n := 1) (by intro c hc; simp at hc; subst hc; rfl) rfl (by unfold maxLen; omega) h (fun j _ => one_flat g j)
theorem valid_one {p : Nat → Int} {g : Gt} : validGt p [g] = (validP p && goatOk p g) := by
  unfold validGt; simp
set_option maxRecDepth 100000 in
set_option maxHeartbeats 2000000 in
theorem implTieGoat_any (p : Nat → Int) (cs : Array Value) (x y u v rope eats likes r : Int) (w : World) (hp : Pv p cs) (hg : (Gt.mk x y u v rope eats likes).ok) :
    Calls Try.prog 33 #[.agg cs, .agg #[.int .i8 x, .int .i8 y, .int .i8 u, .int .i8 v, .int .i16 rope, .int .i16 eats, .int .i8 likes], .int .i64 r] w fun e w' => e = .returned (tieV p x y u v rope eats likes r) ∧ Below w.heap.size w w' := by
  have hL := Own.start w
  have hsz := hp.size
  have HG := Lib.hid hg
  obtain ⟨c, hc⟩ : ∃ c, validGt p [⟨x, y, u, v, rope, eats, likes⟩] = c := ⟨_, rfl⟩
  obtain ⟨d, hd⟩ : ∃ d, inB r 0 200 = d := ⟨_, rfl⟩
  have HCO : Hid (tieC p ⟨x, y, u, v, rope, eats, likes⟩ r = (if c then (if d then 0 else 2) else 1)) := by show tieC _ _ _ = _; unfold tieC; rw [hc, hd]
  have HD := Lib.hid hd
  have HL1 : Hid (∀ s ∈ [Gt.mk x y u v rope eats likes], s.ok) := fun s hs => by simp at hs; subst hs; exact HG.out
  have hr : Hid (d = true → 0 ≤ r ∧ r ≤ 200) := fun h => by
    have := HD.out
    rw [h] at this
    simpa [inB] using this
  go_enter Try.func33, Try.ntmps33
  go_wp2_with (first
    | ((with_reducible refine gate_dst (N := 3) rfl ?_); refine wpl_box (cs := cs) hL rfl rfl rfl ?_; clear hL; intro g3 w3 hL)
    | ((with_reducible refine gate_dst (N := 4) rfl ?_); refine wpl_box (cs := #[.int .i8 x, .int .i8 y, .int .i8 u, .int .i8 v, .int .i16 rope, .int .i16 eats, .int .i8 likes]) hL rfl rfl rfl ?_; clear hL; intro g4 w4 hL)
    | ((with_reducible refine gate_dst (N := 6) rfl ?_); refine wpl_alloc (z := .agg (#[.int .i8 0, .int .i8 0, .int .i8 0, .int .i8 0, .int .i16 0, .int .i16 0, .int .i8 0])) (cs := #[.int .i8 0, .int .i8 0, .int .i8 0, .int .i8 0, .int .i16 0, .int .i16 0, .int .i8 0]) hL rfl rfl (by kernel_rfl) rfl ?_; clear hL; intro g6 w6 hL)
    | ((with_reducible refine gate_load (ty := 43) rfl ?_); refine wpl_loadW_2 hL rfl rfl (by kernel_rfl) rfl hsz (by kernel_rfl) ?_)
    | ((with_reducible refine gate_load (ty := 56) rfl ?_); refine wpl_loadW_1 hL rfl rfl (by kernel_rfl) rfl rfl (by kernel_rfl) ?_)
    | (go_at_call 75; refine halt ?_))
  refine halt_on ?_
  replace hL := hL.new 56 #[.int .i8 x, .int .i8 y, .int .i8 u, .int .i8 v, .int .i16 rope, .int .i16 eats, .int .i8 likes]
  refine (goatCode_any p cs _ [⟨x, y, u, v, rope, eats, likes⟩] _ hp (one_sl ⟨x, y, u, v, rope, eats, likes⟩ (hL.at_ (i := 0) rfl)) HL1.out).mono ?_
  rintro e w7 ⟨rfl, hb⟩
  replace hL := hL.ext hb
  clear hb
  rw [hc]
  cases c with
  | false =>
    cases d with
    | false =>
      have HZ : Hid (tieV p x y u v rope eats likes r = .tuple #[.agg #[.int .i8 0, .int .i8 0, .int .i8 0, .int .i8 0, .int .i16 0, .int .i16 0, .int .i8 0], .int .i64 1]) := by
        show tieV _ _ _ _ _ _ _ _ _ = _; unfold tieV; rw [HCO.out]; rfl
      go_wp2_with (first
        | (go_at_call 65; (with_reducible refine (within_any r 0 200 _).mono ?_); rintro e w4 ⟨rfl, rfl⟩; rw [hd])
        | (go_at_call 76; (with_reducible refine (unless_any false 2 _).mono ?_); rintro e w4 ⟨rfl, rfl⟩)
        | (go_at_call 74; refine halt ?_))
      refine halt_on ?_
      replace hL := hL.new 2 #[.int .i64 1, .int .i64 2]
      refine (firstOf2_any 1 2 _ _ _ (hL.at_ (i := 0) rfl)).mono ?_
      rintro e w8 ⟨rfl, hq⟩
      rw [hq] at hL
      clear hq
      go_wp2_with (first
        | ((with_reducible refine gate_store rfl ?_); refine wpl_storeW_2 (vs := #[.int .i8 0, .int .i8 0, .int .i8 0, .int .i8 0, .int .i16 0, .int .i16 0, .int .i8 0]) hL rfl rfl rfl rfl rfl (by kernel_rfl) (by simp [Value.oneCell']) rfl ?_; clear hL; intro w5 hL)
        | ((with_reducible refine post_gate ?_); exact post2 rfl (res_cell (hL.at_ (i := 2) rfl) rfl (by kernel_rfl) rfl (by kernel_rfl)) (res_tmp rfl) rfl ⟨by rw [HZ.out]; rfl, hL.toBelow⟩))
    | true =>
      have HZ : Hid (tieV p x y u v rope eats likes r = .tuple #[.agg #[.int .i8 0, .int .i8 0, .int .i8 0, .int .i8 0, .int .i16 0, .int .i16 0, .int .i8 0], .int .i64 1]) := by
        show tieV _ _ _ _ _ _ _ _ _ = _; unfold tieV; rw [HCO.out]; rfl
      go_wp2_with (first
        | (go_at_call 65; (with_reducible refine (within_any r 0 200 _).mono ?_); rintro e w4 ⟨rfl, rfl⟩; rw [hd])
        | (go_at_call 76; (with_reducible refine (unless_any true 2 _).mono ?_); rintro e w4 ⟨rfl, rfl⟩)
        | (go_at_call 74; refine halt ?_))
      refine halt_on ?_
      replace hL := hL.new 2 #[.int .i64 1, .int .i64 0]
      refine (firstOf2_any 1 0 _ _ _ (hL.at_ (i := 0) rfl)).mono ?_
      rintro e w8 ⟨rfl, hq⟩
      rw [hq] at hL
      clear hq
      go_wp2_with (first
        | ((with_reducible refine gate_store rfl ?_); refine wpl_storeW_2 (vs := #[.int .i8 0, .int .i8 0, .int .i8 0, .int .i8 0, .int .i16 0, .int .i16 0, .int .i8 0]) hL rfl rfl rfl rfl rfl (by kernel_rfl) (by simp [Value.oneCell']) rfl ?_; clear hL; intro w5 hL)
        | ((with_reducible refine post_gate ?_); exact post2 rfl (res_cell (hL.at_ (i := 2) rfl) rfl (by kernel_rfl) rfl (by kernel_rfl)) (res_tmp rfl) rfl ⟨by rw [HZ.out]; rfl, hL.toBelow⟩))
  | true =>
    cases d with
    | false =>
      have HZ : Hid (tieV p x y u v rope eats likes r = .tuple #[.agg #[.int .i8 0, .int .i8 0, .int .i8 0, .int .i8 0, .int .i16 0, .int .i16 0, .int .i8 0], .int .i64 2]) := by
        show tieV _ _ _ _ _ _ _ _ _ = _; unfold tieV; rw [HCO.out]; rfl
      go_wp2_with (first
        | (go_at_call 65; (with_reducible refine (within_any r 0 200 _).mono ?_); rintro e w4 ⟨rfl, rfl⟩; rw [hd])
        | (go_at_call 76; (with_reducible refine (unless_any false 2 _).mono ?_); rintro e w4 ⟨rfl, rfl⟩)
        | (go_at_call 74; refine halt ?_))
      refine halt_on ?_
      replace hL := hL.new 2 #[.int .i64 0, .int .i64 2]
      refine (firstOf2_any 0 2 _ _ _ (hL.at_ (i := 0) rfl)).mono ?_
      rintro e w8 ⟨rfl, hq⟩
      rw [hq] at hL
      clear hq
      go_wp2_with (first
        | ((with_reducible refine gate_store rfl ?_); refine wpl_storeW_2 (vs := #[.int .i8 0, .int .i8 0, .int .i8 0, .int .i8 0, .int .i16 0, .int .i16 0, .int .i8 0]) hL rfl rfl rfl rfl rfl (by kernel_rfl) (by simp [Value.oneCell']) rfl ?_; clear hL; intro w5 hL)
        | ((with_reducible refine post_gate ?_); exact post2 rfl (res_cell (hL.at_ (i := 2) rfl) rfl (by kernel_rfl) rfl (by kernel_rfl)) (res_tmp rfl) rfl ⟨by rw [HZ.out]; rfl, hL.toBelow⟩))
    | true =>
      have HZ : Hid (tieV p x y u v rope eats likes r = .tuple #[.agg #[.int .i8 x, .int .i8 y, .int .i8 x, .int .i8 y, .int .i16 r, .int .i16 eats, .int .i8 likes], .int .i64 0]) := by
        show tieV _ _ _ _ _ _ _ _ _ = _; unfold tieV; rw [HCO.out]; rfl
      go_wp2_with (first
        | (go_at_call 65; (with_reducible refine (within_any r 0 200 _).mono ?_); rintro e w4 ⟨rfl, rfl⟩; rw [hd])
        | (go_at_call 76; (with_reducible refine (unless_any true 2 _).mono ?_); rintro e w4 ⟨rfl, rfl⟩)
        | (go_at_call 74; refine halt ?_))
      refine halt_on ?_
      replace hL := hL.new 2 #[.int .i64 0, .int .i64 0]
      refine (firstOf2_any 0 0 _ _ _ (hL.at_ (i := 0) rfl)).mono ?_
      rintro e w8 ⟨rfl, hq⟩
      rw [hq] at hL
      clear hq
      obtain ⟨r1, r2⟩ := hr.out (by trivial)
      go_wp2_with (first
        | ((with_reducible refine gate_load (ty := 26) rfl ?_); refine wpl_loadN_3 (off := 0) (vs := #[.int .i8 x, .int .i8 y]) hL 2 rfl rfl (by kernel_rfl) (by kernel_rfl) rfl (by simp) rfl ?_)
        | ((with_reducible refine gate_load (ty := 56) rfl ?_); refine wpl_loadW_3 hL rfl rfl (by kernel_rfl) rfl rfl (by kernel_rfl) ?_)
        | ((with_reducible refine gate_store (ty := 26) rfl ?_); refine wpl_storeN_3 (off := 2) (vs := #[.int .i8 x, .int .i8 y]) hL 2 rfl rfl (by kernel_rfl) rfl rfl rfl (by simp [Value.oneCell']) (by simp) ?_; clear hL; intro w5 hL; (try simp only [splice, List.take_zero, List.take_succ_cons, List.drop_succ_cons, List.drop_zero, List.nil_append, List.cons_append, List.append_nil, List.drop_nil, Nat.reduceAdd, List.size_toArray, List.length_cons, List.length_nil, List.take_nil, Nat.zero_add] at hL))
        | ((with_reducible refine gate_store (ty := 56) rfl ?_); refine wpl_storeW_2 (vs := #[.int .i8 x, .int .i8 y, .int .i8 x, .int .i8 y, .int .i16 r, .int .i16 eats, .int .i8 likes]) hL rfl rfl rfl rfl rfl (by kernel_rfl) (by simp [Value.oneCell']) rfl ?_; clear hL; intro w5 hL)
        | ((with_reducible refine gate_store rfl ?_); first | (refine wpl_store1_3 hL rfl rfl (by kernel_rfl) rfl rfl rfl (by first | assumption | (simp; done) | (simp [*]; done)) ?_; clear hL; intro w0_ hL; (try simp only [Act.eval, Array.getD_eq_getD_getElem?, List.getElem?_toArray, List.getElem?_cons_zero, List.getElem?_cons_succ, Option.getD_some, List.setIfInBounds_toArray, List.set_cons_zero, List.set_cons_succ] at hL)))
        | ((with_reducible refine post_gate ?_); exact post2 rfl (res_cell (hL.at_ (i := 2) rfl) rfl (by kernel_rfl) rfl (by kernel_rfl)) (res_tmp rfl) rfl ⟨by rw [HZ.out]; rfl, hL.toBelow⟩))
end Go.Proofs.Ytjflellnbafbaaa
