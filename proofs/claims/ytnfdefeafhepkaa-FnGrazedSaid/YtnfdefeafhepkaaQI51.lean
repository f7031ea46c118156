import Derived.Test.YtnfdefeafhepkaaQI24
import Derived.Test.YtnfdefeafhepkaaQI40
import Derived.Test.YtnfdefeafhepkaaQI49
import Derived.Test.YtnfdefeafhepkaaQI50
set_option linter.unusedVariables false
set_option linter.unusedSimpArgs false
namespace Go.Proofs.Ytnfdefeafhepkaa
open Go.RowKit Mem
attribute [local irreducible] Calm.wpLex
def gtZ : Gt := ⟨0, 0, 0, 0, 0, 0, 0⟩
def sumE (l : List Gt) : Nat → Int
  | 0 => 0
  | k + 1 => sumE l k + (l.getD k gtZ).eats
def needOf (p : Nat → Int) (l : List Gt) : Value := .tuple (if validGt p l then #[.int .i64 (sumE l l.length), .int .i64 0] else #[.int .i64 0, .int .i64 1])
theorem valid_eats {p : Nat → Int} {l : List Gt} (h : validGt p l = true) : l.length ≤ 20 ∧ ∀ (k : Nat) (g : Gt), l[k]? = some g → 0 ≤ g.eats ∧ g.eats ≤ 100 := by
  unfold validGt at h
  simp only [Bool.and_eq_true, decide_eq_true_eq, List.all_eq_true] at h
  refine ⟨h.2.1, fun k g hg => ?_⟩
  have := h.2.2 g (List.mem_of_getElem? hg)
  unfold goatOk plainG inB at this
  simp only [Bool.and_eq_true, decide_eq_true_eq] at this
  exact this.2.2.1.2.1
theorem sumE_le {l : List Gt} (h : ∀ (k : Nat) (g : Gt), l[k]? = some g → 0 ≤ g.eats ∧ g.eats ≤ 100) (k : Nat) (hk : k ≤ l.length) : 0 ≤ sumE l k ∧ sumE l k ≤ 100 * k := by
  induction k with
  | zero => simp [sumE]
  | succ k ih =>
    obtain ⟨g, hg⟩ : ∃ g, l[k]? = some g := ⟨_, List.getElem?_eq_getElem (by omega)⟩
    have h1 := h k g hg
    have h2 := ih (by omega)
    have : l.getD k gtZ = g := by simp [List.getD_eq_getElem?_getD, hg]
    unfold sumE
    rw [this]
    omega

set_option maxRecDepth 100000 in
theorem unless_any (b : Bool) (c : Int) (w : World) : Calls Try.prog 51 #[.bool b, .int .i64 c] w fun e w' => e = .returned (.int .i64 (if b then 0 else c)) ∧ w = w' := by
  cases b <;> (go_enter Try.func51, Try.ntmps51; go_wp2; go_ret; exact ⟨rfl, rfl⟩)
set_option maxRecDepth 100000 in
theorem goatCode_any (p : Nat → Int) (cs : Array Value) (v : Value) (l : List Gt) (w : World) (hp : Pv p cs) (hl : Sl w 7 v (l.map Gt.cells)) (hok : ∀ s ∈ l, s.ok) :
    Calls Try.prog 69 #[.agg cs, v] w fun e w' => e = .returned (.int .i64 (if validGt p l then 0 else 1)) ∧ Below w.heap.size w w' := by
  have hL := Own.start w
  have HS := Lib.hid hl
  have hsz := hp.size
  clear hl
  go_enter Try.func69, Try.ntmps69
  go_wp2_with (first
    | ((with_reducible refine gate_dst (N := 2) rfl ?_); refine wpl_box (cs := cs) hL rfl rfl rfl ?_; clear hL; intro g2 w2 hL)
    | ((with_reducible refine gate_load (ty := 36) rfl ?_); refine wpl_loadW_0 hL rfl rfl (by kernel_rfl) rfl hsz (by kernel_rfl) ?_)
    | (go_at_call 30; (with_reducible refine (implValidGoats_any p cs v l _ hp (HS.out.below hL.toBelow) hok).mono ?_); rintro e w4 ⟨rfl, hb⟩; replace hL := hL.ext hb; clear hb)
    | (go_at_call 51; (with_reducible refine (unless_any (validGt p l) 1 _).mono ?_); rintro e w4 ⟨rfl, rfl⟩))
  all_goals (go_ret; exact ⟨by first | rfl | simp [*], hL.toBelow⟩)
set_option maxRecDepth 100000 in
set_option maxHeartbeats 2000000 in
theorem implNeedOf_any (p : Nat → Int) (cs : Array Value) (v : Value) (l : List Gt) (w : World) (hp : Pv p cs) (hl : Sl w 7 v (l.map Gt.cells)) (hok : ∀ s ∈ l, s.ok) :
    Calls Try.prog 26 #[.agg cs, v] w fun e w' => e = .returned (needOf p l) ∧ Below w.heap.size w w' := by
  have hL := Own.start w
  have HS := Lib.hid hl
  have hsz := hp.size
  obtain ⟨A, cap, rfl, hc1, hm1, _⟩ := hl
  rw [List.length_map] at HS hc1 ⊢
  unfold maxLen at hm1
  obtain ⟨N, hN⟩ : ∃ N, l.length = N := ⟨_, rfl⟩
  have HN := Lib.hid hN
  rw [hN] at HS hc1 ⊢
  clear hN
  cases hv : validGt p l with
  | false =>
    have HR : Hid (needOf p l = .tuple #[.int .i64 0, .int .i64 1]) := by show needOf p l = _; unfold needOf; rw [hv]; rfl
    go_enter Try.func26, Try.ntmps26
    go_wp2_with (first
      | ((with_reducible refine gate_dst (N := 2) rfl ?_); refine wpl_box (cs := cs) hL rfl rfl rfl ?_; clear hL; intro g2 w2 hL)
      | ((with_reducible refine gate_load (ty := 36) rfl ?_); refine wpl_loadW_0 hL rfl rfl (by kernel_rfl) rfl hsz (by kernel_rfl) ?_)
      | (go_at_call 69; (with_reducible refine (goatCode_any p cs _ l _ hp (HS.out.below hL.toBelow) hok).mono ?_); rintro e w4 ⟨rfl, hb⟩; rw [hv]; replace hL := hL.ext hb; clear hb))
    exact post2 rfl (res_tmp rfl) (res_tmp rfl) rfl ⟨by rw [HR.out]; rfl, hL.toBelow⟩
  | true =>
  obtain ⟨h20, hE⟩ := valid_eats hv
  have HE := Lib.hid hE
  have HR : Hid (needOf p l = .tuple #[.int .i64 (sumE l N), .int .i64 0]) := by show needOf p l = _; unfold needOf; rw [hv, HN.out]; rfl
  have hn20 : N ≤ 20 := by have := HN.out; omega
  clear h20 hE
  go_enter Try.func26, Try.ntmps26
  go_wp2_with (first
    | ((with_reducible refine gate_dst (N := 2) rfl ?_); refine wpl_box (cs := cs) hL rfl rfl rfl ?_; clear hL; intro g2 w2 hL)
    | ((with_reducible refine gate_load (ty := 36) rfl ?_); refine wpl_loadW_0 hL rfl rfl (by kernel_rfl) rfl hsz (by kernel_rfl) ?_)
    | (go_at_call 69; (with_reducible refine (goatCode_any p cs _ l _ hp (HS.out.below hL.toBelow) hok).mono ?_); rintro e w4 ⟨rfl, hb⟩; rw [hv]; replace hL := hL.ext hb; clear hb))
  go_loopg [7, 18] N (fun n a i wr => ∃ (k : Nat) (q : Int), k ≤ N ∧ n = N - k ∧ a = .int .i64 q ∧ i = .int .i64 k ∧ Hid (q = sumE l k) ∧ Own w.heap.size [] w wr [(g2, 36, cs)])
  case atStart => exact ⟨0, 0, by omega, rfl, rfl, rfl, rfl, hL⟩
  case round =>
    clear hL
    obtain ⟨k, q, hk, rfl, rfl, rfl, HQ, hL⟩ := hrel
    by_cases hlt : k < N
    · have HS2 := HS.out.below hL.toBelow
      obtain ⟨A2, cap2, hv2, _, _, hel⟩ := HS2
      injection hv2 with hA hn2 hc2
      obtain ⟨s, hs⟩ : ∃ s, l[k]? = some s := ⟨_, List.getElem?_eq_getElem (by have := HN.out; omega)⟩
      have hgd : l.getD k gtZ = s := by simp [List.getD_eq_getElem?_getD, hs]
      have HGD := Lib.hid hgd
      have hmap : (l.map Gt.cells)[k]? = some s.cells := by rw [List.getElem?_map, hs]; rfl
      obtain ⟨hcl, b, off, hA2, hcell⟩ := hel k _ hmap
      have HC := Lib.hid hcell
      have he := HE.out k s hs
      have hq := sumE_le HE.out k (by have := HN.out; omega)
      rw [← HQ.out] at hq
      obtain rfl : A = some ⟨b, off, none⟩ := hA.trans hA2
      clear hel hmap hs hgd hA hn2 hc2 hA2 hcell
      have hi1 : (k : Int) < (N : Int) := by omega
      obtain ⟨he1, he2⟩ := he
      obtain ⟨hq1, hq2⟩ := hq
      go_wp2_with (first
        | ((with_reducible refine gate_load (ty := 68) rfl ?_); refine wpl_loadA 7 rfl rfl (by kernel_rfl) rfl (c := s.cells) HC.out (by kernel_rfl) rfl ?_)
        | ((with_reducible refine gate_dst (N := 9) rfl ?_); refine wpl_alloc (z := .agg (#[.int .i8 0, .int .i8 0, .int .i8 0, .int .i8 0, .int .i16 0, .int .i16 0, .int .i8 0])) (cs := #[.int .i8 0, .int .i8 0, .int .i8 0, .int .i8 0, .int .i16 0, .int .i16 0, .int .i8 0]) hL rfl rfl (by kernel_rfl) rfl ?_; clear hL; intro g9 w9 hL)
        | ((with_reducible refine gate_store rfl ?_); refine wpl_storeW_0 (vs := #[.int .i8 s.x, .int .i8 s.y, .int .i8 s.u, .int .i8 s.v, .int .i16 s.rope, .int .i16 s.eats, .int .i8 s.likes]) hL rfl rfl rfl rfl rfl (by kernel_rfl) (by simp [Value.oneCell']) rfl ?_; clear hL; intro w5 hL)
        | ((with_reducible refine gate_load (ty := 23) rfl ?_); refine wpl_load_0 hL rfl rfl (by kernel_rfl) rfl rfl ?_))
      have hL := hL.tail
      go_roundg (N - (k + 1))
      case measure => omega
      case rel => exact ⟨k + 1, q + s.eats, by omega, rfl, by go_num, by go_num, (by show q + s.eats = sumE l (k + 1); rw [sumE, HGD.out, HQ.out]), hL⟩
    · obtain rfl : k = N := by omega
      go_wp2
      exact post2 rfl (res_tmp rfl) (res_tmp rfl) rfl ⟨by rw [HR.out, ← HQ.out]; rfl, hL.toBelow⟩
def needS (p : Nat → Int) (l : List Gt) : Int := if validGt p l then sumE l l.length else 0
def needC (p : Nat → Int) (l : List Gt) : Int := if validGt p l then 0 else 1
theorem needOf_eq (p : Nat → Int) (l : List Gt) : needOf p l = .tuple #[.int .i64 (needS p l), .int .i64 (needC p l)] := by
  unfold needOf needS needC
  cases validGt p l <;> rfl
end Go.Proofs.Ytnfdefeafhepkaa
namespace Go.Proofs.Ytnfdefeafhepkaa
open Go.RowKit Mem Wk
attribute [local irreducible] bfsN bfs fdT f1S f1G f1E
theorem hun_mem {E : List Int} {L : List Gt} {v : Int} : ∀ {n : Nat}, v ∈ hunL E L n → ∃ k : Nat, k < n ∧ v = (k : Int) ∧ E.getD k 0 < (L.getD k gtO).eats
  | 0, h => by cases h
  | n + 1, h => by
    rw [hunL] at h
    split at h
    · rename_i hq
      rcases List.mem_append.1 h with h | h
      · obtain ⟨k, h1, h2⟩ := hun_mem h; exact ⟨k, by omega, h2⟩
      · rw [List.mem_singleton] at h; exact ⟨n, by omega, h, hq⟩
    · obtain ⟨k, h1, h2⟩ := hun_mem h; exact ⟨k, by omega, h2⟩
theorem hun_in {E : List Int} {L : List Gt} {k : Nat} (hq : E.getD k 0 < (L.getD k gtO).eats) : ∀ {n : Nat}, k < n → (k : Int) ∈ hunL E L n
  | 0, h => by omega
  | n + 1, h => by
    rw [hunL]
    by_cases e : k = n
    · subst e; rw [if_pos hq]; simp
    · have := hun_in (n := n) hq (by omega)
      split
      · exact List.mem_append_left _ this
      · exact this
theorem hun_has {E : List Int} {L : List Gt} {k n : Nat} {e : Int} {g : Gt} (he : E[k]? = some e) (hg : L[k]? = some g) (hk : k < n) : hasI (hunL E L n) (k : Int) = decide (e < g.eats) := by
  have e1 : E.getD k 0 = e := by simp [List.getD, he]
  have e2 : L.getD k gtO = g := by simp [List.getD, hg]
  by_cases hq : e < g.eats
  · rw [decide_eq_true hq]
    exact hasI_yes (hun_in (by rw [e1, e2]; exact hq) hk)
  · rw [decide_eq_false hq]
    refine hasI_no fun j v hj hv => ?_
    obtain ⟨m, h1, h2, h3⟩ := hun_mem (List.mem_of_getElem? hj)
    have : m = k := by omega
    subst this
    rw [e1, e2] at h3
    exact hq h3
theorem alone_no {p : Nat → Int} {cs : Array Value} {g : Gt} (hp : Pv p cs) (hv : validP p = true) (hg : goatOk p g = true) (hs : g.ok) (hc : (choV p g).2 = false) : ∀ k, (f1S p g k).p = p ∧ f1G p g k = g ∧ f1E p g k = 0
  | 0 => by
    have e : f1S p g 0 = ⟨p, [g], List.replicate 1 0⟩ := by rw [f1S_eq, fdT_zero]
    have eL : f1G p g 0 = g := by unfold f1G; rw [e]; rfl
    have eE : f1E p g 0 = 0 := by unfold f1E; rw [e]; rfl
    exact ⟨by rw [e], eL, eE⟩
  | k + 1 => by
    obtain ⟨h1, h2, h3⟩ := alone_no hp hv hg hs hc k
    obtain ⟨hon, h0, h100⟩ := one_on hv hg hs
    have hst := f1_step hp hon h0 h100 k (by rw [h1]; exact hp)
    rw [h1, h2, h3] at hst
    have hb : btB p g (g.eats - 0) = false := by unfold btB; rw [hc, Bool.and_false]
    have e1 : bitM p g (g.eats - 0) = 0 := by unfold bitM; rw [hb]; rfl
    have e2 : bitP p g (g.eats - 0) = p := by unfold bitP; rw [hb]; rfl
    have e3 : bitG p g (g.eats - 0) = g := by unfold bitG; rw [hb]; rfl
    obtain ⟨_, _, _, _, q1, q2, q3⟩ := hst
    rw [e2] at q1; rw [e3] at q2; rw [e1] at q3
    exact ⟨q1, q2, by omega⟩
theorem alone_step {p : Nat → Int} {cs : Array Value} {g : Gt} (hp : Pv p cs) (hv : validP p = true) (hg : goatOk p g = true) (hs : g.ok) (k : Nat) : f1E p g (k + 1) = f1E p g k + bitM (f1S p g k).p (f1G p g k) ((f1G p g k).eats - f1E p g k) ∧ 0 ≤ bitM (f1S p g k).p (f1G p g k) ((f1G p g k).eats - f1E p g k) := by
  obtain ⟨hon, h0, h100⟩ := one_on hv hg hs
  obtain ⟨hf, ⟨c, hpv⟩, hL, hE⟩ := f1_eq hp hon h0 h100 k
  have hst := f1_step hp hon h0 h100 k hpv
  have hI := GzI.run (L := [g]) hp hv (fun d hd => by rw [List.mem_singleton] at hd; subst hd; exact hg) (f1_ok hp hon h0 h100) (by simp) k
  have e : fdT [g].length ⟨p, [g], List.replicate [g].length 0⟩ k = f1S p g k := (f1S_eq p g k).symm
  rw [e] at hI
  obtain ⟨q1, q2, q3, q4, q5⟩ := hI.goat 0 (f1G p g k) g (f1E p g k) (by rw [hL]; rfl) rfl (by rw [hE]; rfl)
  have hb := bit1 (h := (f1G p g k).eats - f1E p g k) hI.valid q1 (by omega) hst.1.ok
  exact ⟨hst.2.2.2.2.2.2, hb.m0⟩
theorem alone_yes {p : Nat → Int} {cs : Array Value} {g : Gt} (hp : Pv p cs) (hv : validP p = true) (hg : goatOk p g = true) (hs : g.ok) (hc : (choV p g).2 = true) (he : 0 < g.eats) : ∀ k, 0 < f1E p g (k + 1)
  | 0 => by
    obtain ⟨r3, _⟩ := alone_step hp hv hg hs 0
    have e : f1S p g 0 = ⟨p, [g], List.replicate 1 0⟩ := by rw [f1S_eq, fdT_zero]
    have eL : f1G p g 0 = g := by unfold f1G; rw [e]; rfl
    have eE : f1E p g 0 = 0 := by unfold f1E; rw [e]; rfl
    have eP : (f1S p g 0).p = p := by rw [e]
    rw [eL, eE, eP] at r3
    obtain ⟨hW, hH, hW10, hH10⟩ := validP_dims hv
    obtain ⟨hm, hne⟩ := choV_mem hc
    have hcr : inR (choV p g).1 := isC_range ((gtl_mem (by omega) (by omega) (goatOk_parts.1 hg).1).1 hm).1
    have hgr := valid_gi hv hcr
    have hbt : btB p g (g.eats - 0) = true := by unfold btB; rw [hc, Bool.and_true]; exact decide_eq_true (by omega)
    have e1 : bitM p g (g.eats - 0) = min (min (g.eats - 0) 5) (p (gi (choV p g).1.x (choV p g).1.y)) := by unfold bitM; rw [hbt]; rfl
    omega
  | k + 1 => by
    obtain ⟨r3, h0⟩ := alone_step hp hv hg hs (k + 1)
    have := alone_yes hp hv hg hs hc he k
    omega
theorem first_bite {p : Nat → Int} {g : Gt} (hv : validP p = true) (hg : goatOk p g = true) (hc : (choV p g).2 = true) (he : 0 < g.eats) : btB p g g.eats = true ∧ 1 ≤ bitM p g g.eats ∧ bitM p g g.eats ≤ 5 ∧ bitM p g g.eats ≤ g.eats ∧ bitM p g g.eats ≤ p (gi (choV p g).1.x (choV p g).1.y) ∧ inR (choV p g).1 := by
  obtain ⟨hW, hH, hW10, hH10⟩ := validP_dims hv
  obtain ⟨hm, hne⟩ := choV_mem hc
  have hcr : inR (choV p g).1 := isC_range ((gtl_mem (by omega) (by omega) (goatOk_parts.1 hg).1).1 hm).1
  have hgr := valid_gi hv hcr
  have hbt : btB p g g.eats = true := by unfold btB; rw [hc, Bool.and_true]; exact decide_eq_true he
  have e1 : bitM p g g.eats = min (min g.eats 5) (p (gi (choV p g).1.x (choV p g).1.y)) := by unfold bitM; rw [hbt]; rfl
  exact ⟨hbt, by omega, by omega, by omega, by omega, hcr⟩
theorem gtC_0 {p : Nat → Int} {g : Gt} (hv : validP p = true) (hg : goatOk p g = true) : gtC p g = 0 := by unfold gtC; rw [hv, hg]; rfl
theorem chC_eq {p : Nat → Int} {g : Gt} (hv : validP p = true) (hg : goatOk p g = true) (he : 0 < g.eats) : chC p g g.eats = if (choV p g).2 then 0 else 6 := by
  have hr := rope_ge (goatOk_parts.1 hg).2.2.1
  have h1 : hunC p g g.eats = 0 := by
    unfold hunC
    rw [gtC_0 hv hg, if_pos rfl]
    have : inB g.eats 0 100 = true := by unfold inB; simp; omega
    rw [this]
    simp; omega
  unfold chC
  rw [h1, if_pos rfl]
theorem dayV {p : Nat → Int} {cs : Array Value} {L : List Gt} (hp : Pv p cs) (h : GzV p L) : ∀ k, GzV (dayN p L k).p (dayN p L k).L ∧ (∃ c, Pv (dayN p L k).p c) ∧ (dayN p L k).L.length = L.length
  | 0 => ⟨h, ⟨cs, hp⟩, rfl⟩
  | k + 1 => by
    obtain ⟨h1, ⟨c, h2⟩, h3⟩ := dayV hp h k
    obtain ⟨f1, f2, f3⟩ := h1.fed h2
    exact ⟨h1.next h2, f3, by have := f2.lL; show (fedS (dayN p L k).p (dayN p L k).L).L.length = _; rw [this, h3]⟩
theorem dayE {p : Nat → Int} {L : List Gt} : ∀ k, (dayN p L k).E.length = k
  | 0 => rfl
  | k + 1 => by show ((dayN p L k).E ++ [_]).length = _; rw [List.length_append, dayE k]; rfl
theorem dayAt {p : Nat → Int} {L : List Gt} {d : Nat} : ∀ k, d < k → (dayN p L k).E[d]? = some (sumTo (fedS (dayN p L d).p (dayN p L d).L).E L.length)
  | 0, h => by omega
  | k + 1, h => by
    show ((dayN p L k).E ++ [sumTo (fedS (dayN p L k).p (dayN p L k).L).E L.length])[d]? = _
    by_cases e : d = k
    · subst e
      rw [List.getElem?_append_right (by rw [dayE]; exact Nat.le_refl _), dayE, Nat.sub_self]; rfl
    · rw [List.getElem?_append_left (by rw [dayE]; omega)]
      exact dayAt k (by omega)
theorem sumTo_rg {E : List Int} (h : ∀ (i : Nat) (e : Int), E[i]? = some e → 0 ≤ e ∧ e ≤ 100) : ∀ k : Nat, 0 ≤ sumTo E k ∧ sumTo E k ≤ 100 * (k : Int)
  | 0 => by simp [sumTo]
  | k + 1 => by
    have ih := sumTo_rg h k
    have : 0 ≤ E.getD k 0 ∧ E.getD k 0 ≤ 100 := by
      rw [List.getD_eq_getElem?_getD]
      cases he : E[k]? with
      | none => simp
      | some e => simpa using h k e he
    rw [sumTo]; omega
theorem sumG_rg {p : Nat → Int} (hv : validP p = true) : ∀ (l : List Sp), (∀ c ∈ l, inR c) → 0 ≤ sumG p l ∧ sumG p l ≤ 1000 * (l.length : Int)
  | [], _ => by simp [sumG]
  | c :: l, h => by
    have ih := sumG_rg hv l fun d hd => h d (by simp [hd])
    have := valid_gi hv (h c (by simp))
    rw [sumG_cons, List.length_cons]
    omega
theorem grs_rg {p : Nat → Int} (hv : validP p = true) : 0 ≤ grs p ∧ grs p ≤ 1000000 := by
  obtain ⟨hW, hH, hW10, hH10⟩ := validP_dims hv
  have h := sumG_rg hv _ (allL_in hv)
  rw [allL_len] at h
  have hHW : (p 1).toNat * (p 0).toNat ≤ 10 * 10 := Nat.mul_le_mul hH10 hW10
  unfold grs; omega
theorem GzI.eat {p : Nat → Int} {L : List Gt} {s : Fd} {t : Nat} (h : GzI p L s) (hf : FdOk L.length t s) {i : Nat} {g0 : Gt} {e : Int} (hg : L[i]? = some g0) (he : s.E[i]? = some e) : 0 ≤ e ∧ e ≤ g0.eats := by
  have hlL : i < s.L.length := by rw [hf.lL]; exact (List.getElem?_eq_some_iff.1 hg).1
  obtain ⟨q1, q2, q3, q4, q5⟩ := h.goat i s.L[i] g0 e (List.getElem?_eq_getElem hlL) hg he
  exact ⟨q4, by rw [← q3.2.2.2.1]; exact q5⟩
end Go.Proofs.Ytnfdefeafhepkaa
