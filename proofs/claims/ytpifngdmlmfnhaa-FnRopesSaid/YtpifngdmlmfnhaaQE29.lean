import Derived.Test.YtpifngdmlmfnhaaQE28
/- Winding: sums over walks that are parted, joined, turned round. Plain, no condition. -/
namespace Go.Proofs.Ytpifngdmlmfnhaa
set_option linter.unusedVariables false
set_option linter.unusedSimpArgs false
open Go.RowKit Mem Wk

def wnd (o : Sp) (l : List Sp) : Int := wsum (wdB o) l (l.length - 1)
theorem wsum_pre {f : Sp → Sp → Int} {l m : List Sp} : ∀ k, k + 1 ≤ l.length → wsum f (l ++ m) k = wsum f l k
  | 0, _ => rfl
  | k + 1, h => by
    rw [wsum, wsum, wsum_pre k (by omega), List.getElem?_append_left (by omega), List.getElem?_append_left (by omega)]
theorem wsum_take {f : Sp → Sp → Int} {l : List Sp} {m : Nat} : ∀ k, k + 1 ≤ m → wsum f (l.take m) k = wsum f l k
  | 0, _ => rfl
  | k + 1, h => by
    rw [wsum, wsum, wsum_take k (by omega), List.getElem?_take, List.getElem?_take, if_pos (by omega), if_pos (by omega)]
theorem wsum_drop {f : Sp → Sp → Int} {l : List Sp} {m : Nat} : ∀ k, wsum f (l.drop m) k = wsum f l (m + k) - wsum f l m
  | 0 => by simp [wsum]
  | k + 1 => by
    rw [wsum, wsum_drop k, ← Nat.add_assoc, wsum, List.getElem?_drop, List.getElem?_drop, ← Nat.add_assoc]
    omega
theorem wnd_parts (o : Sp) (l : List Sp) {k : Nat} (h : k < l.length) : wnd o (l.take (k + 1)) + wnd o (l.drop k) = wnd o l := by
  unfold wnd
  rw [List.length_take, List.length_drop, wsum_drop]
  rw [show min (k + 1) l.length - 1 = k by omega, wsum_take k (Nat.le_refl _), show k + (l.length - k - 1) = l.length - 1 by omega]
  omega
theorem wnd_join (o : Sp) {l m : List Sp} {s t : Sp} (hs : l[l.length - 1]? = some s) (ht : m[0]? = some t) (hl : 0 < l.length) (hm : 0 < m.length) : wnd o (l ++ m) = wnd o l + wdB o s t + wnd o m := by
  have e1 : wsum (wdB o) (l ++ m) (l.length - 1 + 1) = wsum (wdB o) l (l.length - 1) + wdB o s t := by
    rw [wsum_succ (a := s) (b := t) (by rw [List.getElem?_append_left (by omega)]; exact hs) (by rw [show l.length - 1 + 1 = l.length by omega, List.getElem?_append_right (Nat.le_refl _), Nat.sub_self]; exact ht), wsum_pre _ (by omega)]
  have e2 := wsum_drop (f := wdB o) (l := l ++ m) (m := l.length) (m.length - 1)
  rw [List.drop_left] at e2
  unfold wnd
  rw [List.length_append, show l.length + m.length - 1 = l.length + (m.length - 1) by omega]
  rw [show l.length - 1 + 1 = l.length by omega] at e1
  omega
theorem wdB_self (o s : Sp) : wdB o s s = 0 := by
  unfold wdB
  split
  · split <;> split <;> omega
  · rfl
theorem wdB_back (o a b : Sp) : wdB o b a = - wdB o a b := by
  unfold wdB
  repeat' split
  all_goals omega
theorem wnd_one (o s : Sp) : wnd o [s] = 0 := rfl
theorem wnd_rev (o : Sp) : ∀ l : List Sp, wnd o l.reverse = - wnd o l
  | [] => rfl
  | [s] => rfl
  | s :: t :: l => by
    have ih := wnd_rev o (t :: l)
    have h1 := wnd_join o (l := (t :: l).reverse) (m := [s]) (s := t) (t := s) (by rw [List.getElem?_reverse (by simp)]; simp) rfl (by simp) (by simp)
    have h2 := wnd_join o (l := [s]) (m := t :: l) (s := s) (t := t) rfl rfl (by simp) (by simp)
    rw [List.reverse_cons, h1, ih, wdB_back, wnd_one]
    rw [show s :: t :: l = [s] ++ (t :: l) from rfl, h2, wnd_one]
    omega
theorem WkOk.rev {p : Nat → Int} {a : Sp} {l : List Sp} (h : WkOk p a l) : WkOk p a l.reverse := by
  refine ⟨fun c hc => h.cell c (List.mem_reverse.1 hc), fun i s t hs ht => ?_⟩
  have h1 := (List.getElem?_eq_some_iff.1 ht).1
  rw [List.length_reverse] at h1
  rw [List.getElem?_reverse (by omega)] at hs
  rw [List.getElem?_reverse (by omega)] at ht
  have h2 := h.step (l.length - 1 - (i + 1)) t s ht (by rw [show l.length - 1 - (i + 1) + 1 = l.length - 1 - i by omega]; exact hs)
  exact wkStep_symm (h.cell t (List.mem_of_getElem? ht)).1 h2
theorem WkOk.take {p : Nat → Int} {a : Sp} {l : List Sp} (h : WkOk p a l) (k : Nat) : WkOk p a (l.take k) := by
  refine ⟨fun c hc => h.cell c (List.mem_of_mem_take hc), fun i s t hs ht => ?_⟩
  rw [List.getElem?_take] at hs ht
  split at ht
  · rw [if_pos (by omega)] at hs; exact h.step i s t hs ht
  · cases ht
theorem WkOk.drop {p : Nat → Int} {a : Sp} {l : List Sp} (h : WkOk p a l) (k : Nat) : WkOk p a (l.drop k) := by
  refine ⟨fun c hc => h.cell c (List.mem_of_mem_drop hc), fun i s t hs ht => ?_⟩
  rw [List.getElem?_drop] at hs ht
  exact h.step (k + i) s t hs (by rw [Nat.add_assoc]; exact ht)
theorem WkOk.append {p : Nat → Int} {a : Sp} {l m : List Sp} (hl : WkOk p a l) (hm : WkOk p a m) (hj : ∀ s t, l[l.length - 1]? = some s → m[0]? = some t → wkStep p s t = true) : WkOk p a (l ++ m) := by
  refine ⟨fun c hc => (List.mem_append.1 hc).elim (hl.cell c) (hm.cell c), fun i s t hs ht => ?_⟩
  by_cases h1 : i + 1 < l.length
  · rw [List.getElem?_append_left h1] at ht
    rw [List.getElem?_append_left (by omega)] at hs
    exact hl.step i s t hs ht
  · by_cases h2 : i + 1 = l.length
    · rw [List.getElem?_append_left (by omega)] at hs
      rw [List.getElem?_append_right (by omega), show i + 1 - l.length = 0 by omega] at ht
      exact hj s t (by rw [show l.length - 1 = i by omega]; exact hs) ht
    · rw [List.getElem?_append_right (by omega)] at hs ht
      exact hm.step (i - l.length) s t hs (by rw [show i - l.length + 1 = i + 1 - l.length by omega]; exact ht)
theorem rev_head {l : List Sp} (h : 0 < l.length) : ∃ s, l[l.length - 1]? = some s ∧ l.reverse[0]? = some s := by
  have hx : l[l.length - 1]? = some (l[l.length - 1]'(by omega)) := List.getElem?_eq_getElem _
  exact ⟨_, hx, by rw [List.getElem?_reverse (by omega)]; exact hx⟩
theorem wnd_round (o : Sp) {l : List Sp} (h : 0 < l.length) : wnd o (l ++ l.reverse) = 0 := by
  obtain ⟨s, h1, h2⟩ := rev_head h
  rw [wnd_join o h1 h2 h (by simpa using h), wdB_self, wnd_rev]
  omega
theorem WkOk.round {p : Nat → Int} {a : Sp} {l : List Sp} (h : WkOk p a l) (hl : 0 < l.length) : WkOk p a (l ++ l.reverse) := by
  refine h.append h.rev fun s t hs ht => ?_
  obtain ⟨u, h1, h2⟩ := rev_head hl
  rw [h1] at hs; rw [h2] at ht
  injection hs with hs; injection ht with ht
  subst hs; subst ht; exact wkStep_self p _
end Go.Proofs.Ytpifngdmlmfnhaa
