import Derived.Test.YtnafnhpajkhgkaaQY03
import Derived.Test.YtnafnhpajkhgkaaQY04
/- What the laws' own copiers and comparers do: a pasture is handed on as it is; two alike compare as alike. -/
namespace Go.Proofs.Ytnafnhpajkhgkaa
set_option linter.unusedVariables false
set_option linter.unusedSimpArgs false
open Go.RowKit Mem

set_option maxRecDepth 100000 in
set_option maxHeartbeats 400000 in
theorem toInt16A10_any (cs : Array Value) (w : World) (hs : IntsOf .i16 10 cs) :
    Calls Try.prog 58 #[.agg cs] w fun e w' => e = .returned (.agg cs) ∧ Below w.heap.size w w' := by
  have hL := Own.start w
  have H := Lib.hid hs
  clear hs
  go_enter Try.func58, Try.ntmps58
  go_wp2_with (first | ((with_reducible refine gate_dst (N := 1) rfl ?_); refine wpl_box (cs := cs) hL rfl rfl rfl ?_; clear hL; intro g1 w1 hL) | ((with_reducible refine gate_dst (N := 2) rfl ?_); refine wpl_alloc (z := .agg (zr .i16 10)) (cs := zr .i16 10) hL rfl rfl (by kernel_rfl) rfl ?_; clear hL; intro g2 w2 hL) | ((with_reducible refine gate_dst (N := 3) rfl ?_); refine wpl_alloc (z := .agg (zr .i16 10)) (cs := zr .i16 10) hL rfl rfl (by kernel_rfl) rfl ?_; clear hL; intro g3 w3 hL))
  go_loopg [4] 10 (fun n i wr => ∃ (k : Nat) (o : Array Value), k ≤ 10 ∧ n = 10 - k ∧ i = .int .i64 k ∧ Hid (o.size = 10) ∧ Hid (∀ j, j < k → o[j]? = cs[j]?) ∧ Own w.heap.size [] w wr [(g3, 24, o), (g2, 24, zr .i16 10), (g1, 24, cs)])
  case atStart => exact ⟨0, _, by omega, rfl, rfl, (zr_size _ _ : (zr .i16 10).size = 10), (fun j hj => by omega : ∀ j, j < 0 → _), hL⟩
  case round =>
    clear hL
    obtain ⟨k, o, hk, rfl, rfl, HO, HP, hL⟩ := hrel
    by_cases hlt : k < 10
    · obtain ⟨x, hv⟩ := H.out.2 k hlt
      have hfit : k < o.size := by have := HO.out; omega
      go_wp2_with (first | ((with_reducible refine gate_load rfl ?_); first | (refine wpl_load_2 hL rfl rfl (by kernel_rfl) rfl (by first | rfl | assumption) ?_)) | ((with_reducible refine gate_store rfl ?_); first | (refine wpl_store1_0 hL rfl rfl (by kernel_rfl) rfl rfl rfl (by first | assumption | (simp; done) | (simp [*]; done)) ?_; clear hL; intro w0_ hL; (try simp only [Act.eval, Array.getD_eq_getD_getElem?, List.getElem?_toArray, List.getElem?_cons_zero, List.getElem?_cons_succ, Option.getD_some, List.setIfInBounds_toArray, List.set_cons_zero, List.set_cons_succ] at hL))))
      go_roundg (10 - (k + 1))
      case measure => omega
      case rel => exact ⟨k + 1, _, by omega, rfl, by go_num, (by simpa using HO.out : (o.setIfInBounds k (.int .i16 x)).size = 10), set_prefix hfit hv HP.out, hL⟩
    · have ho : o = cs := arr_ext HO.out H.out.1 fun j hj => HP.out j (by omega)
      subst ho
      have hsz := HO.out
      have h1 := H.out.one
      go_wp2_with (first | ((with_reducible refine gate_load rfl ?_); first | (refine wpl_loadW_0 hL rfl rfl (by kernel_rfl) rfl (by first | exact zr_size _ _ | assumption | rfl) (by kernel_rfl) ?_)) | ((with_reducible refine gate_store rfl ?_); first | (refine wpl_storeW_1 hL rfl rfl rfl rfl (by first | exact zr_size _ _ | assumption | rfl) (by kernel_rfl) (by first | assumption | (simp [Value.oneCell']; done)) (by first | assumption | rfl) ?_; clear hL; intro w0_ hL)) | ((with_reducible refine post_gate ?_); exact post1 rfl (res_cell (hL.at_ (i := 1) rfl) rfl (by kernel_rfl) hsz (by kernel_rfl)) rfl ⟨rfl, hL.toBelow⟩))

set_option maxRecDepth 100000 in
set_option maxHeartbeats 400000 in
theorem toUint16A10_any (cs : Array Value) (w : World) (hs : IntsOf .u16 10 cs) :
    Calls Try.prog 26 #[.agg cs] w fun e w' => e = .returned (.agg cs) ∧ Below w.heap.size w w' := by
  have hL := Own.start w
  have H := Lib.hid hs
  clear hs
  go_enter Try.func26, Try.ntmps26
  go_wp2_with (first | ((with_reducible refine gate_dst (N := 1) rfl ?_); refine wpl_box (cs := cs) hL rfl rfl rfl ?_; clear hL; intro g1 w1 hL) | ((with_reducible refine gate_dst (N := 2) rfl ?_); refine wpl_alloc (z := .agg (zr .u16 10)) (cs := zr .u16 10) hL rfl rfl (by kernel_rfl) rfl ?_; clear hL; intro g2 w2 hL) | ((with_reducible refine gate_dst (N := 3) rfl ?_); refine wpl_alloc (z := .agg (zr .u16 10)) (cs := zr .u16 10) hL rfl rfl (by kernel_rfl) rfl ?_; clear hL; intro g3 w3 hL))
  go_loopg [4] 10 (fun n i wr => ∃ (k : Nat) (o : Array Value), k ≤ 10 ∧ n = 10 - k ∧ i = .int .i64 k ∧ Hid (o.size = 10) ∧ Hid (∀ j, j < k → o[j]? = cs[j]?) ∧ Own w.heap.size [] w wr [(g3, 27, o), (g2, 27, zr .u16 10), (g1, 27, cs)])
  case atStart => exact ⟨0, _, by omega, rfl, rfl, (zr_size _ _ : (zr .u16 10).size = 10), (fun j hj => by omega : ∀ j, j < 0 → _), hL⟩
  case round =>
    clear hL
    obtain ⟨k, o, hk, rfl, rfl, HO, HP, hL⟩ := hrel
    by_cases hlt : k < 10
    · obtain ⟨x, hv⟩ := H.out.2 k hlt
      have hfit : k < o.size := by have := HO.out; omega
      go_wp2_with (first | ((with_reducible refine gate_load rfl ?_); first | (refine wpl_load_2 hL rfl rfl (by kernel_rfl) rfl (by first | rfl | assumption) ?_)) | ((with_reducible refine gate_store rfl ?_); first | (refine wpl_store1_0 hL rfl rfl (by kernel_rfl) rfl rfl rfl (by first | assumption | (simp; done) | (simp [*]; done)) ?_; clear hL; intro w0_ hL; (try simp only [Act.eval, Array.getD_eq_getD_getElem?, List.getElem?_toArray, List.getElem?_cons_zero, List.getElem?_cons_succ, Option.getD_some, List.setIfInBounds_toArray, List.set_cons_zero, List.set_cons_succ] at hL))))
      go_roundg (10 - (k + 1))
      case measure => omega
      case rel => exact ⟨k + 1, _, by omega, rfl, by go_num, (by simpa using HO.out : (o.setIfInBounds k (.int .u16 x)).size = 10), set_prefix hfit hv HP.out, hL⟩
    · have ho : o = cs := arr_ext HO.out H.out.1 fun j hj => HP.out j (by omega)
      subst ho
      have hsz := HO.out
      have h1 := H.out.one
      go_wp2_with (first | ((with_reducible refine gate_load rfl ?_); first | (refine wpl_loadW_0 hL rfl rfl (by kernel_rfl) rfl (by first | exact zr_size _ _ | assumption | rfl) (by kernel_rfl) ?_)) | ((with_reducible refine gate_store rfl ?_); first | (refine wpl_storeW_1 hL rfl rfl rfl rfl (by first | exact zr_size _ _ | assumption | rfl) (by kernel_rfl) (by first | assumption | (simp [Value.oneCell']; done)) (by first | assumption | rfl) ?_; clear hL; intro w0_ hL)) | ((with_reducible refine post_gate ?_); exact post1 rfl (res_cell (hL.at_ (i := 1) rfl) rfl (by kernel_rfl) hsz (by kernel_rfl)) rfl ⟨rfl, hL.toBelow⟩))

set_option maxRecDepth 100000 in
set_option maxHeartbeats 400000 in
theorem toInt16A10A10_any (cs : Array Value) (w : World) (hs : IntsOf .i16 100 cs) :
    Calls Try.prog 25 #[.agg cs] w fun e w' => e = .returned (.agg cs) ∧ Below w.heap.size w w' := by
  have hL := Own.start w
  have H := Lib.hid hs
  clear hs
  go_enter Try.func25, Try.ntmps25
  go_wp2_with (first | ((with_reducible refine gate_dst (N := 1) rfl ?_); refine wpl_box (cs := cs) hL rfl rfl rfl ?_; clear hL; intro g1 w1 hL) | ((with_reducible refine gate_dst (N := 2) rfl ?_); refine wpl_alloc (z := .agg (zr .i16 100)) (cs := zr .i16 100) hL rfl rfl (by kernel_rfl) rfl ?_; clear hL; intro g2 w2 hL) | ((with_reducible refine gate_dst (N := 3) rfl ?_); refine wpl_alloc (z := .agg (zr .i16 100)) (cs := zr .i16 100) hL rfl rfl (by kernel_rfl) rfl ?_; clear hL; intro g3 w3 hL))
  go_loopg [4] 10 (fun n i wr => ∃ (k : Nat) (o : Array Value), k ≤ 10 ∧ n = 10 - k ∧ i = .int .i64 k ∧ Hid (o.size = 100) ∧ Hid (∀ j, j < k * 10 → o[j]? = cs[j]?) ∧ Own w.heap.size [] w wr [(g3, 25, o), (g2, 25, zr .i16 100), (g1, 25, cs)])
  case atStart => exact ⟨0, _, by omega, rfl, rfl, (zr_size _ _ : (zr .i16 100).size = 100), (fun j hj => by omega : ∀ j, j < 0 * 10 → _), hL⟩
  case round =>
    clear hL
    obtain ⟨k, o, hk, rfl, rfl, HO, HP, hL⟩ := hrel
    by_cases hlt : k < 10
    · have hfit : k * 10 + 10 ≤ o.size := by have := HO.out; omega
      have hfit2 : k * 10 + 10 ≤ cs.size := by have := H.out.1; omega
      have hv := H.out.part (k * 10) 10 (by omega)
      have hs10 := hv.1
      have hone := hv.one
      have HV := Lib.hid hv
      clear hv
      go_wp2_with (first
        | ((with_reducible refine gate_load rfl ?_); refine wpl_loadN_2 hL 10 rfl rfl (by kernel_rfl) (by kernel_rfl) rfl hfit2 rfl ?_)
        | (go_at_call 58; (with_reducible refine (toInt16A10_any _ _ HV.out).mono ?_); rintro e w4 ⟨rfl, hb⟩; replace hL := hL.ext hb; clear hb)
        | ((with_reducible refine gate_store rfl ?_); refine wpl_storeN_0 hL 10 rfl rfl (by kernel_rfl) rfl rfl hs10 hone hfit ?_; clear hL; intro w5 hL))
      go_roundg (10 - (k + 1))
      case measure => omega
      case rel => exact ⟨k + 1, _, by omega, rfl, by go_num, (splice_size _ _ _ (by rw [hs10]; exact hfit)).trans HO.out, splice_prefix hfit hfit2 HP.out, hL⟩
    · have ho : o = cs := arr_ext HO.out H.out.1 fun j hj => HP.out j (by omega)
      subst ho
      have hsz := HO.out
      have h1 := H.out.one
      go_wp2_with (first | ((with_reducible refine gate_load rfl ?_); first | (refine wpl_loadW_0 hL rfl rfl (by kernel_rfl) rfl (by first | exact zr_size _ _ | assumption | rfl) (by kernel_rfl) ?_)) | ((with_reducible refine gate_store rfl ?_); first | (refine wpl_storeW_1 hL rfl rfl rfl rfl (by first | exact zr_size _ _ | assumption | rfl) (by kernel_rfl) (by first | assumption | (simp [Value.oneCell']; done)) (by first | assumption | rfl) ?_; clear hL; intro w0_ hL)) | ((with_reducible refine post_gate ?_); exact post1 rfl (res_cell (hL.at_ (i := 1) rfl) rfl (by kernel_rfl) hsz (by kernel_rfl)) rfl ⟨rfl, hL.toBelow⟩))

theorem pas_build {p : Nat → Int} {cs : Array Value} (h : Pv p cs) :
    splice (splice (splice ((zP.setIfInBounds 0 (.int .i8 (p 0))).setIfInBounds 1 (.int .i8 (p 1))) 2 (cs.extract 2 102)) 102 (cs.extract 102 112)) 112 (cs.extract 112 122) = cs := by
  have hz : zP.size = 122 := zP_pv.size
  have hc := h.size
  have e1 : (cs.extract 2 102).size = 100 := by simp; omega
  have e2 : (cs.extract 102 112).size = 10 := by simp; omega
  have e3 : (cs.extract 112 122).size = 10 := by simp; omega
  have s0 : ((zP.setIfInBounds 0 (Value.int .i8 (p 0))).setIfInBounds 1 (.int .i8 (p 1))).size = 122 := by simp [hz]
  have s1 : (splice ((zP.setIfInBounds 0 (Value.int .i8 (p 0))).setIfInBounds 1 (.int .i8 (p 1))) 2 (cs.extract 2 102)).size = 122 := (splice_size _ 2 _ (by omega)).trans s0
  have s2 : (splice (splice ((zP.setIfInBounds 0 (Value.int .i8 (p 0))).setIfInBounds 1 (.int .i8 (p 1))) 2 (cs.extract 2 102)) 102 (cs.extract 102 112)).size = 122 := (splice_size _ 102 _ (by omega)).trans s1
  refine arr_ext (n := 122) ((splice_size _ _ _ (by omega)).trans s2) hc fun j hj => ?_
  rw [splice_get _ _ _ (by omega), splice_get _ _ _ (by omega), splice_get _ _ _ (by omega), e1, e2, e3]
  by_cases h3 : 112 ≤ j
  · rw [if_pos (by omega), Array.getElem?_extract, if_pos (by omega), show 112 + (j - 112) = j by omega]
  · rw [if_neg (by omega)]
    by_cases h2 : 102 ≤ j
    · rw [if_pos (by omega), Array.getElem?_extract, if_pos (by omega), show 102 + (j - 102) = j by omega]
    · rw [if_neg (by omega)]
      by_cases h1 : 2 ≤ j
      · rw [if_pos (by omega), Array.getElem?_extract, if_pos (by omega), show 2 + (j - 2) = j by omega]
      · rw [if_neg (by omega)]
        by_cases h0 : j = 1
        · subst h0; rw [h.g1]; simp [hz]
        · obtain rfl : j = 0 := by omega
          rw [h.g0]; simp [hz]

set_option maxRecDepth 100000 in
set_option maxHeartbeats 400000 in
theorem toPasture_any (p : Nat → Int) (cs : Array Value) (w : World) (hp : Pv p cs) :
    Calls Try.prog 8 #[.agg cs] w fun e w' => e = .returned (.agg cs) ∧ Below w.heap.size w w' := by
  have hL := Own.start w
  have hv0 := hp.g0
  have hv1 := hp.g1
  have hz : zP.size = 122 := zP_pv.size
  have hc : cs.size = 122 := hp.size
  have e1 : (cs.extract 2 102).size = 100 := by simp; omega
  have e2 : (cs.extract 102 112).size = 10 := by simp; omega
  have e3 : (cs.extract 112 122).size = 10 := by simp; omega
  have o1 := hp.ints16.one
  have o2 := hp.intsE.one
  have o3 := hp.intsS.one
  have hfin := pas_build hp
  have F1 := Lib.hid hp.ints16
  have F2 := Lib.hid hp.intsE
  have F3 := Lib.hid hp.intsS
  have FH := Lib.hid (And.intro hp hfin)
  have s0 : ((zP.setIfInBounds 0 (Value.int .i8 (p 0))).setIfInBounds 1 (.int .i8 (p 1))).size = 122 := by simp [hz]
  obtain ⟨c1, hc1⟩ : ∃ c, ((zP.setIfInBounds 0 (Value.int .i8 (p 0))).setIfInBounds 1 (.int .i8 (p 1))) = c := ⟨_, rfl⟩
  rw [hc1] at s0
  obtain ⟨c2, hc2⟩ : ∃ c, splice c1 2 (cs.extract 2 102) = c := ⟨_, rfl⟩
  have s1 : c2.size = 122 := by rw [← hc2]; exact (splice_size _ _ _ (by omega)).trans s0
  obtain ⟨c3, hc3⟩ : ∃ c, splice c2 102 (cs.extract 102 112) = c := ⟨_, rfl⟩
  have s2 : c3.size = 122 := by rw [← hc3]; exact (splice_size _ _ _ (by omega)).trans s1
  rw [hc1, hc2, hc3] at hfin
  have HC1 := Lib.hid hc1
  have HC2 := Lib.hid hc2
  have HC3 := Lib.hid hc3
  have HF := Lib.hid hfin
  have HS := Lib.hid (And.intro e1 (And.intro e2 (And.intro e3 (And.intro s0 (And.intro s1 (And.intro s2 (And.intro o1 (And.intro o2 o3))))))))
  have HZ := Lib.hid hz
  clear hc1 hc2 hc3 hfin e1 e2 e3 s0 s1 s2 o1 o2 o3 hz hp
  go_enter Try.func8, Try.ntmps8
  go_wp2_with (first
    | ((with_reducible refine gate_dst (N := 1) rfl ?_); refine wpl_box (cs := cs) hL rfl rfl rfl ?_; clear hL; intro g1 w1 hL)
    | ((with_reducible refine gate_dst (N := 2) rfl ?_); refine wpl_alloc (z := .agg (zP)) (cs := zP) hL rfl rfl (by kernel_rfl) rfl ?_; clear hL; intro g2 w2 hL)
    | ((with_reducible refine gate_dst (N := 3) rfl ?_); refine wpl_alloc (z := .agg (zP)) (cs := zP) hL rfl rfl (by kernel_rfl) rfl ?_; clear hL; intro g3 w3 hL)
    | ((with_reducible refine gate_load rfl ?_); first | (refine wpl_load_2 hL rfl rfl (by kernel_rfl) rfl (by first | rfl | assumption) ?_))
    | ((with_reducible refine gate_load (ty := 25) rfl ?_); refine wpl_loadN_2 (vs := cs.extract 2 102) hL 100 rfl rfl (by kernel_rfl) (by kernel_rfl) rfl (by omega) rfl ?_)
    | ((with_reducible refine gate_dst (N := 15) rfl ?_); refine wpl_loadN_2 (vs := cs.extract 102 112) hL 10 rfl rfl (by kernel_rfl) (by kernel_rfl) rfl (by omega) rfl ?_)
    | ((with_reducible refine gate_dst (N := 19) rfl ?_); refine wpl_loadN_2 (vs := cs.extract 112 122) hL 10 rfl rfl (by kernel_rfl) (by kernel_rfl) rfl (by omega) rfl ?_)
    | ((with_reducible refine gate_load (ty := 32) rfl ?_); refine wpl_loadW_0 hL rfl rfl (by kernel_rfl) rfl hc (by kernel_rfl) ?_)
    | (go_at_call 25; (with_reducible refine (toInt16A10A10_any _ _ F1.out).mono ?_); rintro e w4 ⟨rfl, hb⟩; replace hL := hL.ext hb; clear hb)
    | (go_at_call 26; (with_reducible refine (toUint16A10_any _ _ F2.out).mono ?_); rintro e w4 ⟨rfl, hb⟩; replace hL := hL.ext hb; clear hb)
    | (go_at_call 26; (with_reducible refine (toUint16A10_any _ _ F3.out).mono ?_); rintro e w4 ⟨rfl, hb⟩; replace hL := hL.ext hb; clear hb)
    | ((with_reducible refine gate_store (ty := 22) rfl ?_); refine wpl_store1_0 hL rfl rfl (by kernel_rfl) rfl rfl rfl (by first | (rw [HZ.out]; decide) | (simp only [Array.size_setIfInBounds]; rw [HZ.out]; decide)) ?_; clear hL; intro w0_ hL; (try simp only [Act.eval, Array.getD_eq_getD_getElem?, List.getElem?_toArray, List.getElem?_cons_zero, List.getElem?_cons_succ, Option.getD_some] at hL); try rw [HC1.out] at hL)
    | ((with_reducible refine gate_store (ty := 25) rfl ?_); refine wpl_storeN_0 hL 100 rfl rfl (by kernel_rfl) rfl rfl HS.out.1 HS.out.2.2.2.2.2.2.1 (by have := HS.out.2.2.2.1; omega) ?_; clear hL; intro w5 hL; rw [HC2.out] at hL)
    | ((with_reducible refine gate_store (ty := 27) rfl ?_); refine wpl_storeN_0 hL 10 rfl rfl (by kernel_rfl) rfl rfl HS.out.2.1 HS.out.2.2.2.2.2.2.2.1 (by have := HS.out.2.2.2.2.1; omega) ?_; clear hL; intro w5 hL; rw [HC3.out] at hL)
    | ((with_reducible refine gate_store (ty := 27) rfl ?_); refine wpl_storeN_0 hL 10 rfl rfl (by kernel_rfl) rfl rfl HS.out.2.2.1 HS.out.2.2.2.2.2.2.2.2 (by have := HS.out.2.2.2.2.2.1; omega) ?_; clear hL; intro w5 hL; rw [HF.out] at hL)
    | ((with_reducible refine gate_store (ty := 32) rfl ?_); refine wpl_storeW_1 hL rfl rfl rfl rfl zP_pv.size (by kernel_rfl) FH.out.1.one hc ?_; clear hL; intro w5 hL)
    | ((with_reducible refine post_gate ?_); exact post1 rfl (res_cell (hL.at_ (i := 1) rfl) rfl (by kernel_rfl) hc (by kernel_rfl)) rfl ⟨rfl, hL.toBelow⟩))
end Go.Proofs.Ytnafnhpajkhgkaa
/- Cells of slices laid in blocks. Slices of at most 2 to the power 20 elements. -/
namespace Go.Proofs.Ytnafnhpajkhgkaa
set_option linter.unusedVariables false
set_option linter.unusedSimpArgs false
open Go.RowKit Mem

theorem flat_get {sz : Nat} (l : List (List Value)) (hl : ∀ c ∈ l, c.length = sz) (i : Nat) (c : List Value) (hc : l[i]? = some c) (j : Nat) (hj : j < sz) : l.flatten[i * sz + j]? = c[j]? := by
  induction l generalizing i with
  | nil => simp at hc
  | cons d l ih =>
    have hd := hl d (by simp)
    rw [List.flatten_cons]
    match i with
    | 0 => simp at hc; subst hc; rw [List.getElem?_append_left (by omega)]; simp
    | i + 1 =>
      rw [Nat.succ_mul, List.getElem?_append_right (by omega)]
      rw [show i * sz + sz + j - d.length = i * sz + j by omega]
      exact ih (fun c hc => hl c (List.mem_cons_of_mem _ hc)) i (by simpa using hc)
theorem flat_len {sz : Nat} (l : List (List Value)) (hl : ∀ c ∈ l, c.length = sz) : l.flatten.length = l.length * sz := by
  induction l with
  | nil => simp
  | cons d l ih => rw [List.flatten_cons, List.length_append, ih fun c hc => hl c (List.mem_cons_of_mem _ hc), hl d (by simp), List.length_cons, Nat.succ_mul]; omega
end Go.Proofs.Ytnafnhpajkhgkaa
/- More laws of the walk: a guarded operation that runs; the end of a drawn region; contracts that leave the heap below as it was. -/
namespace Go.Proofs.Ytnafnhpajkhgkaa
set_option linter.unusedVariables false
open Go.RowKit Mem
def Halt (p : Prop) : Prop := p
theorem halt {p : Prop} (h : Halt p) : p := h
theorem wpl_ungate {P : Program} {ops : Array Oper} {Q : Exit → Act → World → Prop} {a : Act} {w : World} {rest : List Oper} {d : Option Tmp} {op : Op} {t : TypeId} {ps : String} {af : Array Edge} {g : Nat × Bool} (hw : Region.wanted ⟨d, op, t, ps, af, some g⟩ (yielded ops a.tmps) = true)
    (h : wpList P ops Q (⟨d, op, t, ps, af, none⟩ :: rest) a w) : wpList P ops Q (⟨d, op, t, ps, af, some g⟩ :: rest) a w := by
  unfold wpList at h ⊢
  rw [if_pos (by rfl)] at h
  rw [if_pos hw]
  exact h
theorem to_below {P : Program} {f : FuncId} {args : Array Value} {w : World} {v v' : Value} (h : Calls P f args w fun e w' => e = .returned v ∧ w = w') (hv : v = v') : Calls P f args w fun e w' => e = .returned v' ∧ Below w.heap.size w w' :=
  h.mono fun e w' ⟨h1, h2⟩ => by subst h2; subst hv; exact ⟨h1, Below.refl _ _⟩
/-- What was tracked and not written: all below is as it was. -/
theorem Mem.Own.toBelow1 {B : Nat} {g : Nat} {T : TypeId} {cs : Array Value} {w0 w : World} {L : List (Nat × TypeId × Array Value)} (h : Own B [g] w0 w L) (h0 : w0.heap[g]? = some (.cells cs T (0, 0))) (h1 : w.heap[g]? = some (.cells cs T (0, 0))) : Below B w0 w :=
  ⟨h.os, h.tape, h.output, h.size, fun k hk => by
    by_cases e : k = g
    · subst e; rw [h0, h1]
    · exact h.others k hk e⟩
theorem lex_nil {P : Program} {ops : Array Oper} {B : Nat} {w : World} {pl : Nat → Calm.Plan} {K2 : Act → Calm.Made → Prop} {k : Nat} {a : Act} {E : Calm.Made} (h : K2 a E) : Calm.wpLex P ops B w pl K2 [] k a E := h
end Go.Proofs.Ytnafnhpajkhgkaa
