/- NeedOf: what the goats eat. No condition. -/
import Derived.Test.YtjflellnbafbaaaGtk
namespace Go.Proofs.Ytjflellnbafbaaa
set_option linter.unusedVariables false
set_option linter.unusedSimpArgs false
open Go.RowKit Mem
attribute [local irreducible] Calm.wpLex

def gtZ : Gt := ⟨0, 0, 0, 0, 0, 0, 0⟩
def sumE (l : List Gt) : Nat → Int
  | 0 => 0
  | k + 1 => sumE l k + (l.getD k gtZ).eats
def needOf (p : Nat → Int) (l : List Gt) : Value := .tuple (if validGt p l then #[.int .i64 (sumE l l.length), .int .i64 0] else #[.int .i64 0, .int .i64 1])
theorem valid_eats {p : Nat → Int} {l : List Gt} (h : validGt p l = true) : l.length ≤ 20 ∧ ∀ (k : Nat) (g : Gt), l[k]? = some g → 0 ≤ g.eats ∧ g.eats ≤ 100 := by
  unfold validGt at h
  simp only [Bool.and_eq_true, decide_eq_true_eq, List.all_eq_true] at h
  refine ⟨h.2.1, fun k g hg => ?_⟩
  have := h.2.2 g (List.mem_of_getElem? hg)
  unfold goatOk plainG inB at this
  simp only [Bool.and_eq_true, decide_eq_true_eq] at this
  exact this.2.2.1.2.1
theorem sumE_le {l : List Gt} (h : ∀ (k : Nat) (g : Gt), l[k]? = some g → 0 ≤ g.eats ∧ g.eats ≤ 100) (k : Nat) (hk : k ≤ l.length) : 0 ≤ sumE l k ∧ sumE l k ≤ 100 * k := by
  induction k with
  | zero => simp [sumE]
  | succ k ih =>
    obtain ⟨g, hg⟩ : ∃ g, l[k]? = some g := ⟨_, List.getElem?_eq_getElem (by omega)⟩
    have h1 := h k g hg
    have h2 := ih (by omega)
    have : l.getD k gtZ = g := by simp [List.getD_eq_getElem?_getD, hg]
    unfold sumE
    rw [this]
    omega

set_option maxRecDepth 100000 in
theorem unless_any (b : Bool) (c : Int) (w : World) : Calls Try.prog 76 #[.bool b, .int .i64 c] w fun e w' => e = .returned (.int .i64 (if b then 0 else c)) ∧ w = w' := by
  cases b <;> (go_enter Try.func76, Try.ntmps76; go_wp2; go_ret; exact ⟨rfl, rfl⟩)
set_option maxRecDepth 100000 in
theorem goatCode_any (p : Nat → Int) (cs : Array Value) (v : Value) (l : List Gt) (w : World) (hp : Pv p cs) (hl : Sl w 7 v (l.map Gt.cells)) (hok : ∀ s ∈ l, s.ok) :
    Calls Try.prog 75 #[.agg cs, v] w fun e w' => e = .returned (.int .i64 (if validGt p l then 0 else 1)) ∧ Below w.heap.size w w' := by
  have hL := Own.start w
  have HS := Lib.hid hl
  have hsz := hp.size
  clear hl
  go_enter Try.func75, Try.ntmps75
  go_wp2_with (first
    | ((with_reducible refine gate_dst (N := 2) rfl ?_); refine wpl_box (cs := cs) hL rfl rfl rfl ?_; clear hL; intro g2 w2 hL)
    | ((with_reducible refine gate_load (ty := 43) rfl ?_); refine wpl_loadW_0 hL rfl rfl (by kernel_rfl) rfl hsz (by kernel_rfl) ?_)
    | (go_at_call 29; (with_reducible refine (implValidGoats_any p cs v l _ hp (HS.out.below hL.toBelow) hok).mono ?_); rintro e w4 ⟨rfl, hb⟩; replace hL := hL.ext hb; clear hb)
    | (go_at_call 76; (with_reducible refine (unless_any (validGt p l) 1 _).mono ?_); rintro e w4 ⟨rfl, rfl⟩))
  all_goals (go_ret; exact ⟨by first | rfl | simp [*], hL.toBelow⟩)
set_option maxRecDepth 100000 in
set_option maxHeartbeats 2000000 in
theorem specNeedOf_any (p : Nat → Int) (cs : Array Value) (v : Value) (l : List Gt) (w : World) (hp : Pv p cs) (hl : Sl w 7 v (l.map Gt.cells)) (hok : ∀ s ∈ l, s.ok) :
    Calls Try.prog 35 #[.agg cs, v] w fun e w' => e = .returned (needOf p l) ∧ Below w.heap.size w w' := by
  have hL := Own.start w
  have HS := Lib.hid hl
  obtain ⟨A, cap, rfl, hc1, hm1, _⟩ := hl
  rw [List.length_map] at HS hc1 ⊢
  unfold maxLen at hm1
  obtain ⟨N, hN⟩ : ∃ N, l.length = N := ⟨_, rfl⟩
  have HN := Lib.hid hN
  rw [hN] at HS hc1 ⊢
  clear hN
  cases hv : validGt p l with
  | false =>
    have HR : Hid (needOf p l = .tuple #[.int .i64 0, .int .i64 1]) := by show needOf p l = _; unfold needOf; rw [hv]; rfl
    go_enter Try.func35, Try.ntmps35
    go_wp2_with (first
      | ((with_reducible refine gate_dst (N := 2) rfl ?_); refine wpl_box (cs := cs) hL rfl rfl rfl ?_; clear hL; intro g2 w2 hL)
      | (go_at_call 67; (with_reducible refine (l02Ok_any p cs _ _ _ l _ hp (hL.at_ (i := 0) rfl) (HS.out.below hL.toBelow) hok).mono ?_); rintro e w4 ⟨rfl, hb⟩; rw [hv]; replace hL := hL.ext hb; clear hb))
    exact post2 rfl (res_tmp rfl) (res_tmp rfl) rfl ⟨by rw [HR.out]; rfl, hL.toBelow⟩
  | true =>
  obtain ⟨h20, hE⟩ := valid_eats hv
  have HE := Lib.hid hE
  have HR : Hid (needOf p l = .tuple #[.int .i64 (sumE l N), .int .i64 0]) := by show needOf p l = _; unfold needOf; rw [hv, HN.out]; rfl
  have hn20 : N ≤ 20 := by have := HN.out; omega
  clear h20 hE
  go_enter Try.func35, Try.ntmps35
  go_wp2_with (first
    | ((with_reducible refine gate_dst (N := 2) rfl ?_); refine wpl_box (cs := cs) hL rfl rfl rfl ?_; clear hL; intro g2 w2 hL)
    | (go_at_call 67; (with_reducible refine (l02Ok_any p cs _ _ _ l _ hp (hL.at_ (i := 0) rfl) (HS.out.below hL.toBelow) hok).mono ?_); rintro e w4 ⟨rfl, hb⟩; rw [hv]; replace hL := hL.ext hb; clear hb))
  go_loopg [6, 7] N (fun n a i wr => ∃ (k : Nat) (q : Int), k ≤ N ∧ n = N - k ∧ a = .int .i64 q ∧ i = .int .i64 k ∧ Hid (q = sumE l k) ∧ Own w.heap.size [] w wr [(g2, 43, cs)])
  case atStart => exact ⟨0, 0, by omega, rfl, rfl, rfl, rfl, hL⟩
  case round =>
    clear hL
    obtain ⟨k, q, hk, rfl, rfl, rfl, HQ, hL⟩ := hrel
    by_cases hlt : k < N
    · have HS2 := HS.out.below hL.toBelow
      obtain ⟨A2, cap2, hv2, _, _, hel⟩ := HS2
      injection hv2 with hA hn2 hc2
      obtain ⟨s, hs⟩ : ∃ s, l[k]? = some s := ⟨_, List.getElem?_eq_getElem (by have := HN.out; omega)⟩
      have hgd : l.getD k gtZ = s := by simp [List.getD_eq_getElem?_getD, hs]
      have HGD := Lib.hid hgd
      have hmap : (l.map Gt.cells)[k]? = some s.cells := by rw [List.getElem?_map, hs]; rfl
      obtain ⟨hcl, b, off, hA2, hcell⟩ := hel k _ hmap
      have HC : Hid (wr.cell? ⟨b, off + k * 7 + 5, none⟩ = some (.int .i16 s.eats)) := hcell 5 _ rfl
      have he := HE.out k s hs
      have hq := sumE_le HE.out k (by have := HN.out; omega)
      rw [← HQ.out] at hq
      obtain rfl : A = some ⟨b, off, none⟩ := hA.trans hA2
      clear hel hmap hs hgd hA hn2 hc2 hA2 hcell
      have hi1 : (k : Int) < (N : Int) := by omega
      obtain ⟨he1, he2⟩ := he
      obtain ⟨hq1, hq2⟩ := hq
      go_wp2_with (first
        | ((with_reducible refine gate_load (ty := 35) rfl ?_); (refine wpl_load1 rfl rfl (by kernel_rfl) rfl (HC.out) ?_)))
      go_roundg (N - (k + 1))
      case measure => omega
      case rel => exact ⟨k + 1, q + s.eats, by omega, rfl, by go_num, by go_num, (by show q + s.eats = sumE l (k + 1); rw [sumE, HGD.out, HQ.out]), hL⟩
    · obtain rfl : k = N := by omega
      go_wp2
      exact post2 rfl (res_tmp rfl) (res_tmp rfl) rfl ⟨by rw [HR.out, ← HQ.out]; rfl, hL.toBelow⟩
set_option maxRecDepth 100000 in
set_option maxHeartbeats 2000000 in
theorem implNeedOf_any (p : Nat → Int) (cs : Array Value) (v : Value) (l : List Gt) (w : World) (hp : Pv p cs) (hl : Sl w 7 v (l.map Gt.cells)) (hok : ∀ s ∈ l, s.ok) :
    Calls Try.prog 36 #[.agg cs, v] w fun e w' => e = .returned (needOf p l) ∧ Below w.heap.size w w' := by
  have hL := Own.start w
  have HS := Lib.hid hl
  have hsz := hp.size
  obtain ⟨A, cap, rfl, hc1, hm1, _⟩ := hl
  rw [List.length_map] at HS hc1 ⊢
  unfold maxLen at hm1
  obtain ⟨N, hN⟩ : ∃ N, l.length = N := ⟨_, rfl⟩
  have HN := Lib.hid hN
  rw [hN] at HS hc1 ⊢
  clear hN
  cases hv : validGt p l with
  | false =>
    have HR : Hid (needOf p l = .tuple #[.int .i64 0, .int .i64 1]) := by show needOf p l = _; unfold needOf; rw [hv]; rfl
    go_enter Try.func36, Try.ntmps36
    go_wp2_with (first
      | ((with_reducible refine gate_dst (N := 2) rfl ?_); refine wpl_box (cs := cs) hL rfl rfl rfl ?_; clear hL; intro g2 w2 hL)
      | ((with_reducible refine gate_load (ty := 43) rfl ?_); refine wpl_loadW_0 hL rfl rfl (by kernel_rfl) rfl hsz (by kernel_rfl) ?_)
      | (go_at_call 75; (with_reducible refine (goatCode_any p cs _ l _ hp (HS.out.below hL.toBelow) hok).mono ?_); rintro e w4 ⟨rfl, hb⟩; rw [hv]; replace hL := hL.ext hb; clear hb))
    exact post2 rfl (res_tmp rfl) (res_tmp rfl) rfl ⟨by rw [HR.out]; rfl, hL.toBelow⟩
  | true =>
  obtain ⟨h20, hE⟩ := valid_eats hv
  have HE := Lib.hid hE
  have HR : Hid (needOf p l = .tuple #[.int .i64 (sumE l N), .int .i64 0]) := by show needOf p l = _; unfold needOf; rw [hv, HN.out]; rfl
  have hn20 : N ≤ 20 := by have := HN.out; omega
  clear h20 hE
  go_enter Try.func36, Try.ntmps36
  go_wp2_with (first
    | ((with_reducible refine gate_dst (N := 2) rfl ?_); refine wpl_box (cs := cs) hL rfl rfl rfl ?_; clear hL; intro g2 w2 hL)
    | ((with_reducible refine gate_load (ty := 43) rfl ?_); refine wpl_loadW_0 hL rfl rfl (by kernel_rfl) rfl hsz (by kernel_rfl) ?_)
    | (go_at_call 75; (with_reducible refine (goatCode_any p cs _ l _ hp (HS.out.below hL.toBelow) hok).mono ?_); rintro e w4 ⟨rfl, hb⟩; rw [hv]; replace hL := hL.ext hb; clear hb))
  go_loopg [7, 18] N (fun n a i wr => ∃ (k : Nat) (q : Int), k ≤ N ∧ n = N - k ∧ a = .int .i64 q ∧ i = .int .i64 k ∧ Hid (q = sumE l k) ∧ Own w.heap.size [] w wr [(g2, 43, cs)])
  case atStart => exact ⟨0, 0, by omega, rfl, rfl, rfl, rfl, hL⟩
  case round =>
    clear hL
    obtain ⟨k, q, hk, rfl, rfl, rfl, HQ, hL⟩ := hrel
    by_cases hlt : k < N
    · have HS2 := HS.out.below hL.toBelow
      obtain ⟨A2, cap2, hv2, _, _, hel⟩ := HS2
      injection hv2 with hA hn2 hc2
      obtain ⟨s, hs⟩ : ∃ s, l[k]? = some s := ⟨_, List.getElem?_eq_getElem (by have := HN.out; omega)⟩
      have hgd : l.getD k gtZ = s := by simp [List.getD_eq_getElem?_getD, hs]
      have HGD := Lib.hid hgd
      have hmap : (l.map Gt.cells)[k]? = some s.cells := by rw [List.getElem?_map, hs]; rfl
      obtain ⟨hcl, b, off, hA2, hcell⟩ := hel k _ hmap
      have HC := Lib.hid hcell
      have he := HE.out k s hs
      have hq := sumE_le HE.out k (by have := HN.out; omega)
      rw [← HQ.out] at hq
      obtain rfl : A = some ⟨b, off, none⟩ := hA.trans hA2
      clear hel hmap hs hgd hA hn2 hc2 hA2 hcell
      have hi1 : (k : Int) < (N : Int) := by omega
      obtain ⟨he1, he2⟩ := he
      obtain ⟨hq1, hq2⟩ := hq
      go_wp2_with (first
        | ((with_reducible refine gate_load (ty := 56) rfl ?_); refine wpl_loadA 7 rfl rfl (by kernel_rfl) rfl (c := s.cells) HC.out (by kernel_rfl) rfl ?_)
        | ((with_reducible refine gate_dst (N := 9) rfl ?_); refine wpl_alloc (z := .agg (#[.int .i8 0, .int .i8 0, .int .i8 0, .int .i8 0, .int .i16 0, .int .i16 0, .int .i8 0])) (cs := #[.int .i8 0, .int .i8 0, .int .i8 0, .int .i8 0, .int .i16 0, .int .i16 0, .int .i8 0]) hL rfl rfl (by kernel_rfl) rfl ?_; clear hL; intro g9 w9 hL)
        | ((with_reducible refine gate_store rfl ?_); refine wpl_storeW_0 (vs := #[.int .i8 s.x, .int .i8 s.y, .int .i8 s.u, .int .i8 s.v, .int .i16 s.rope, .int .i16 s.eats, .int .i8 s.likes]) hL rfl rfl rfl rfl rfl (by kernel_rfl) (by simp [Value.oneCell']) rfl ?_; clear hL; intro w5 hL)
        | ((with_reducible refine gate_load (ty := 35) rfl ?_); refine wpl_load_0 hL rfl rfl (by kernel_rfl) rfl rfl ?_))
      have hL := hL.tail
      go_roundg (N - (k + 1))
      case measure => omega
      case rel => exact ⟨k + 1, q + s.eats, by omega, rfl, by go_num, by go_num, (by show q + s.eats = sumE l (k + 1); rw [sumE, HGD.out, HQ.out]), hL⟩
    · obtain rfl : k = N := by omega
      go_wp2
      exact post2 rfl (res_tmp rfl) (res_tmp rfl) rfl ⟨by rw [HR.out, ← HQ.out]; rfl, hL.toBelow⟩
def needS (p : Nat → Int) (l : List Gt) : Int := if validGt p l then sumE l l.length else 0
def needC (p : Nat → Int) (l : List Gt) : Int := if validGt p l then 0 else 1
theorem needOf_eq (p : Nat → Int) (l : List Gt) : needOf p l = .tuple #[.int .i64 (needS p l), .int .i64 (needC p l)] := by
  unfold needOf needS needC
  cases validGt p l <;> rfl
end Go.Proofs.Ytjflellnbafbaaa
