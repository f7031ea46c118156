import Derived.Test.YtnfdefeafhepkaaQI27
import Derived.Test.YtnfdefeafhepkaaQI38
import Derived.Test.YtnfdefeafhepkaaQI43
import Derived.Test.YtnfdefeafhepkaaQI45
set_option linter.unusedVariables false
set_option linter.unusedSimpArgs false
namespace Go.Proofs.Ytnfdefeafhepkaa
open Go.RowKit Mem Wk
attribute [local irreducible] bfsN bfs
def same2 (p q : Nat → Int) : Prop := ∀ j, j < 2 ∨ 102 ≤ j → q j = p j
theorem same2.refl (p : Nat → Int) : same2 p p := fun _ _ => rfl
theorem same2.trans {p q r : Nat → Int} (h1 : same2 p q) (h2 : same2 q r) : same2 p r := fun j hj => (h2 j hj).trans (h1 j hj)
theorem same2.nb {p q : Nat → Int} (h : same2 p q) : nbP q = nbP p := by
  funext s
  unfold nbP besL
  have e : ∀ side : Int, canB q s.x s.y side = canB p s.x s.y side := fun side => by
    unfold canB standB
    rw [h 0 (by omega), h 1 (by omega), h (112 + _) (by omega), h (102 + _) (by omega)]
  simp only [e]
theorem same2.str {p q : Nat → Int} (h : same2 p q) : strD q = strD p := by
  funext o
  unfold strD stepsP
  rw [h.nb]
theorem same2.yard {p q : Nat → Int} (h : same2 p q) (o : Sp) : yardL q o = yardL p o := by
  unfold yardL pasL
  have e : yardF q o = yardF p o := by funext c; unfold yardF; rw [h.str]
  rw [e, h 0 (by omega), h 1 (by omega)]
theorem same2.gtl {p q : Nat → Int} (h : same2 p q) (g : Gt) : gtlL q g = gtlL p g := by
  unfold gtlL; rw [h.yard]
theorem goatOk_low {p q : Nat → Int} {g : Gt} (h : same2 p q) : goatOk q g = goatOk p g := by
  unfold goatOk; rw [h 0 (by omega), h 1 (by omega)]
theorem gtl_mem {p : Nat → Int} {g : Gt} {c : Sp} (ha : p 0 ≤ 10) (hb : p 1 ≤ 10) (hg : isC (p 0) (p 1) g.x g.y = true) : c ∈ gtlL p g ↔ cel p c ∧ conn p ⟨g.x, g.y⟩ c ∧ nearI g c.x c.y = true := by
  unfold gtlL
  rw [List.mem_filter, yard_mem ha hb (a := ⟨g.x, g.y⟩) hg, and_assoc]
  simp
theorem gtl_move {p : Nat → Int} {g0 g : Gt} (ha : p 0 ≤ 10) (hb : p 1 ≤ 10) (hg0 : isC (p 0) (p 1) g0.x g0.y = true) (hm : ⟨g.x, g.y⟩ ∈ gtlL p g0) (hu : g.u = g0.u) (hv : g.v = g0.v) (hr : g.rope = g0.rope) {c : Sp} (hc : c ∈ gtlL p g) : c ∈ gtlL p g0 := by
  have h1 := (gtl_mem ha hb hg0).1 hm
  have h2 := (gtl_mem (g := g) ha hb h1.1).1 hc
  refine (gtl_mem ha hb hg0).2 ⟨h2.1, conn_trans h1.2.1 h2.2.1, ?_⟩
  have := h2.2.2
  unfold nearI at this ⊢
  rw [← hu, ← hv, ← hr]; exact this
theorem goatOk_parts {p : Nat → Int} {g : Gt} : goatOk p g = true ↔ isC (p 0) (p 1) g.x g.y = true ∧ isC (p 0) (p 1) g.u g.v = true ∧ plainG g = true ∧ nearG g = true := by
  unfold goatOk; simp [Bool.and_eq_true]
theorem near_IG {g : Gt} (h : -1 ≤ g.rope) (c : Sp) : nearI g c.x c.y = nearG { g with x := c.x, y := c.y } := by
  unfold nearI nearG
  simp only
  congr 1
  by_cases e : g.rope = -1
  · rw [decide_eq_true e, decide_eq_true (by omega)]
  · rw [decide_eq_false e, decide_eq_false (by omega)]
theorem rope_ge {g : Gt} (h : plainG g = true) : -1 ≤ g.rope ∧ 0 ≤ g.eats ∧ g.eats ≤ 100 := by
  unfold plainG inB at h
  simp at h
  omega
theorem own_cell {p : Nat → Int} {g : Gt} (ha : p 0 ≤ 10) (hb : p 1 ≤ 10) (h : goatOk p g = true) : ⟨g.x, g.y⟩ ∈ gtlL p g := by
  obtain ⟨h1, h2, h3, h4⟩ := goatOk_parts.1 h
  refine (gtl_mem ha hb h1).2 ⟨h1, conn_refl _ _, ?_⟩
  rw [near_IG (rope_ge h3).1 ⟨g.x, g.y⟩]; exact h4
theorem choAt_gr (p : Nat → Int) (g : Gt) : ∀ (l : List Sp) (st : Sp × Bool), (st.2 = true → p (gi st.1.x st.1.y) ≠ 0) → (l.foldl (chStep p g) st).2 = true → p (gi (l.foldl (chStep p g) st).1.x (l.foldl (chStep p g) st).1.y) ≠ 0
  | [], st, h, h2 => h h2
  | c :: l, st, h, h2 => by
    rw [List.foldl_cons] at h2 ⊢
    refine choAt_gr p g l _ (fun h3 => ?_) h2
    unfold chStep at h3 ⊢
    split
    · rename_i hz; rw [if_pos hz] at h3; exact h h3
    · rename_i hz
      rw [if_neg hz] at h3
      split
      · exact hz
      · rename_i hq; rw [if_neg hq] at h3; exact h h3
theorem choV_mem {p : Nat → Int} {g : Gt} (h : (choV p g).2 = true) : (choV p g).1 ∈ gtlL p g ∧ p (gi (choV p g).1.x (choV p g).1.y) ≠ 0 :=
  ⟨choAt_all (Q := fun c => c ∈ gtlL p g) p g (gtlL p g) (⟨0, 0⟩, false) (fun h => by cases h) (fun c hc => hc) h, choAt_gr p g (gtlL p g) (⟨0, 0⟩, false) (fun h => by cases h) h⟩
theorem valid_gr {p : Nat → Int} (hv : validP p = true) {x y : Nat} (hx : x < 10) (hy : y < 10) : 0 ≤ p (2 + y * 10 + x) ∧ p (2 + y * 10 + x) ≤ 1000 := by
  have h := (valid_parts.1 hv).2.2 y hy
  have h2 := h.1 x hx
  unfold gOk inB at h2
  split at h2 <;> simp at h2 <;> omega
theorem valid_gi {p : Nat → Int} (hv : validP p = true) {c : Sp} (hc : inR c) : 0 ≤ p (gi c.x c.y) ∧ p (gi c.x c.y) ≤ 1000 := by
  obtain ⟨h1, h2, h3, h4⟩ := hc
  exact valid_gr hv (x := c.x.toNat) (y := c.y.toNat) (by omega) (by omega)
theorem sumG_acc (p : Nat → Int) : ∀ (l : List Sp) (a : Int), l.foldl (fun a c => a + p (gi c.x c.y)) a = a + sumG p l
  | [], a => by simp [sumG]
  | c :: l, a => by
    unfold sumG
    rw [List.foldl_cons, List.foldl_cons, sumG_acc p l (a + _), sumG_acc p l (0 + _)]
    omega
theorem sumG_cons (p : Nat → Int) (c : Sp) (l : List Sp) : sumG p (c :: l) = p (gi c.x c.y) + sumG p l := by
  conv => lhs; unfold sumG
  rw [List.foldl_cons, sumG_acc]; omega
theorem gi_inj {a b : Sp} (ha : inR a) (hb : inR b) (h : gi a.x a.y = gi b.x b.y) : a = b := by
  obtain ⟨h1, h2, h3, h4⟩ := ha
  obtain ⟨h5, h6, h7, h8⟩ := hb
  obtain ⟨x, y⟩ := a
  obtain ⟨u, v⟩ := b
  unfold gi at h
  simp only at *
  congr 1 <;> omega
theorem sumG_out {p : Nat → Int} {i : Nat} {v : Int} : ∀ {l : List Sp}, (∀ c ∈ l, gi c.x c.y ≠ i) → sumG (upd p i v) l = sumG p l
  | [], _ => rfl
  | c :: l, h => by
    rw [sumG_cons, sumG_cons, upd_ne _ _ (h c (by simp)), sumG_out fun d hd => h d (by simp [hd])]
theorem sumG_upd {p : Nat → Int} {s : Sp} {v : Int} : ∀ {l : List Sp}, (∀ c ∈ l, inR c) → l.Nodup → s ∈ l → sumG (upd p (gi s.x s.y) v) l = sumG p l + (v - p (gi s.x s.y))
  | [], _, _, h => by cases h
  | c :: l, hin, hnd, h => by
    rw [sumG_cons, sumG_cons]
    have hnd' := List.nodup_cons.1 hnd
    by_cases e : s = c
    · subst e
      rw [upd_at, sumG_out (l := l) fun d hd q => hnd'.1 (gi_inj (hin d (by simp [hd])) (hin s (by simp)) q ▸ hd)]
      omega
    · have hs : s ∈ l := (List.mem_cons.1 h).resolve_left e
      have hne : gi c.x c.y ≠ gi s.x s.y := fun q => e (gi_inj (hin c (by simp)) (hin s h) q).symm
      rw [upd_ne _ _ hne, sumG_upd (fun d hd => hin d (by simp [hd])) hnd'.2 hs]
      omega
theorem allL_nodup (W H : Nat) : (allL W H).Nodup := by
  unfold allL
  refine List.Pairwise.map _ (fun a b hab => ?_) (List.nodup_range (n := H * W))
  intro h
  unfold cellN at h
  injection h with h1 h2
  have e1 : a % W = b % W := by omega
  have e2 : a / W = b / W := by omega
  exact hab (by rw [← Nat.div_add_mod a W, ← Nat.div_add_mod b W, e1, e2])
theorem allL_in {p : Nat → Int} (hv : validP p = true) : ∀ c ∈ allL (p 0).toNat (p 1).toNat, inR c := fun c hc => by
  obtain ⟨hW, hH, hW10, hH10⟩ := validP_dims hv
  obtain ⟨k, hk, rfl⟩ := List.mem_map.1 hc
  exact isC_range (cellN_cel hW hH hW10 hH10 (List.mem_range.1 hk))
theorem allL_mem {p : Nat → Int} {c : Sp} (hc : cel p c) : c ∈ allL (p 0).toNat (p 1).toNat := by
  unfold cel isC inB at hc
  simp at hc
  unfold allL
  refine List.mem_map.2 ⟨c.y.toNat * (p 0).toNat + c.x.toNat, List.mem_range.2 ?_, ?_⟩
  · have h1 : c.y.toNat + 1 ≤ (p 1).toNat := by omega
    have h2 := Nat.mul_le_mul_right (p 0).toNat h1
    rw [Nat.succ_mul] at h2
    omega
  · rw [cellN_at _ (by omega)]
    obtain ⟨x, y⟩ := c
    simp only at hc ⊢
    congr 1 <;> omega
structure Bit1 (p : Nat → Int) (g : Gt) (h : Int) : Prop where
  m0 : 0 ≤ bitM p g h
  mh : bitM p g h ≤ h
  valid : validP (bitP p g h) = true
  same : same2 p (bitP p g h)
  le : ∀ j, bitP p g h j ≤ p j
  gok : goatOk (bitP p g h) (bitG p g h) = true
  cell : ⟨(bitG p g h).x, (bitG p g h).y⟩ ∈ gtlL p g
  sum : grs (bitP p g h) + bitM p g h = grs p
theorem bit1 {p : Nat → Int} {g : Gt} {h : Int} (hv : validP p = true) (hg : goatOk p g = true) (h0 : 0 ≤ h) (hs : g.ok) : Bit1 p g h := by
  obtain ⟨hW, hH, hW10, hH10⟩ := validP_dims hv
  have ha : p 0 ≤ 10 := by omega
  have hb : p 1 ≤ 10 := by omega
  obtain ⟨g1, g2, g3, g4⟩ := goatOk_parts.1 hg
  cases hbt : btB p g h
  case false =>
    have e1 : bitM p g h = 0 := by unfold bitM; rw [hbt]; rfl
    have e2 : bitP p g h = p := by unfold bitP; rw [hbt]; rfl
    have e3 : bitG p g h = g := by unfold bitG; rw [hbt]; rfl
    exact ⟨by omega, by omega, by rw [e2]; exact hv, by rw [e2]; exact same2.refl p, fun j => by rw [e2]; exact Int.le_refl _, by rw [e2, e3]; exact hg, by rw [e3]; exact own_cell ha hb hg, by rw [e1, e2]; omega⟩
  case true =>
    have hbt2 := hbt
    unfold btB at hbt2
    rw [Bool.and_eq_true] at hbt2
    have hh : 0 < h := of_decide_eq_true hbt2.1
    obtain ⟨hm, hne⟩ := choV_mem hbt2.2
    have hcl := (gtl_mem ha hb g1).1 hm
    have hcr : inR (choV p g).1 := isC_range hcl.1
    have hgr := valid_gi hv hcr
    have e1 : bitM p g h = min (min h 5) (p (gi (choV p g).1.x (choV p g).1.y)) := by unfold bitM; rw [hbt]; rfl
    have e2 : bitP p g h = upd p (gi (choV p g).1.x (choV p g).1.y) (p (gi (choV p g).1.x (choV p g).1.y) - bitM p g h) := by unfold bitP; rw [hbt]; rfl
    have e3 : bitG p g h = ⟨(choV p g).1.x, (choV p g).1.y, g.u, g.v, g.rope, g.eats, g.likes⟩ := by unfold bitG; rw [hbt]; rfl
    have hsm : same2 p (bitP p g h) := fun j hj => by
      rw [e2]
      obtain ⟨q1, q2, q3, q4⟩ := hcr
      exact upd_ne _ _ (by unfold gi; omega)
    refine ⟨by omega, by omega, ?_, hsm, fun j => ?_, ?_, by rw [e3]; exact hm, ?_⟩
    · rw [e2]
      obtain ⟨q1, q2, q3, q4⟩ := hcr
      exact valid_grass hv (x := (choV p g).1.x.toNat) (y := (choV p g).1.y.toNat) (by omega) (by omega) (by rw [show (((choV p g).1.x.toNat : Nat) : Int) = (choV p g).1.x by omega, show (((choV p g).1.y.toNat : Nat) : Int) = (choV p g).1.y by omega]; exact hcl.1) (by omega) (by omega)
    · rw [e2]
      by_cases e : j = gi (choV p g).1.x (choV p g).1.y
      · subst e; rw [upd_at]; omega
      · rw [upd_ne _ _ e]; exact Int.le_refl _
    · rw [goatOk_low hsm, e3]
      refine goatOk_parts.2 ⟨hcl.1, g2, ?_, ?_⟩
      · unfold plainG tied at g3 ⊢; exact g3
      · have := hcl.2.2
        rw [near_IG (rope_ge g3).1] at this
        exact this
    · have hc0 : (bitP p g h) 0 = p 0 := hsm 0 (by omega)
      have hc1 : (bitP p g h) 1 = p 1 := hsm 1 (by omega)
      unfold grs
      rw [hc0, hc1, e2, sumG_upd (allL_in hv) (allL_nodup _ _) (allL_mem hcl.1)]
      omega
end Go.Proofs.Ytnfdefeafhepkaa
