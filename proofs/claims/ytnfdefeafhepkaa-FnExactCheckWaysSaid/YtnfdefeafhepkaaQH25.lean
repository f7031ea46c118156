import Derived.Test.YtnfdefeafhepkaaQH09
import Derived.Test.YtnfdefeafhepkaaQH12
import Derived.Test.YtnfdefeafhepkaaQH14
import Derived.Test.YtnfdefeafhepkaaQH16
import Derived.Test.YtnfdefeafhepkaaQH18
import Derived.Test.YtnfdefeafhepkaaQH21
import Derived.Test.YtnfdefeafhepkaaQH22
import Derived.Test.YtnfdefeafhepkaaQH23
import Derived.Test.YtnfdefeafhepkaaQH24
/- A drawn region that makes a slice and appends foreign slices to it. Plain theorems; no condition but a length of at most 2^20. -/
namespace Go.Proofs.Ytnfdefeafhepkaa.Wk
set_option linter.unusedVariables false
set_option linter.unusedSimpArgs false
open Go Go.RowKit Mem Calm
variable {P : Program} {n : Nat} {O : List Nat} {w0 : World} {l : List (Nat × Value)} {N L : List (Nat × TypeId × Array Value)} {Q : Exit → Act → World → Prop} {ops : Array Oper} {o : Oper} {rest : List Oper} {kk d : Nat} {v : Value} {x y : Operand} {Nok : List (Nat × TypeId × Array Value) → Prop} {pl : Nat → CalmE.Plan (List (Nat × TypeId × Array Value))}
theorem c_drawZe {id : Nat} {r : List Oper} (bs : List Bool) (Nok : List (Nat × TypeId × Array Value) → Prop) (pl : List (CalmE.Plan (List (Nat × TypeId × Array Value)))) (hm : P.follows .mixedOrders = true) (hB : Region.lexB .any r.toArray = true) (hst : CalmE.effB .any r.toArray bs = true) (hag : CalmE.Agree pl bs) (hok : Nok [])
    (h : Z P r.toArray Q n O w0 Nok (fun i => pl.getD i (.inl undef)) r 0 l [] L) : C P Q n O w0 (.region id r.toArray true) l L := c_drawZ bs Nok [] L pl hm hB hst hag hok (List.Perm.refl _) h
theorem z_bsl {t : TypeId} {len : Nat} {T : TypeId} {cs : Array Value} {parts : Array (Nat × Operand)} {ps : List (Nat × Value)} (ho : o.op = .buildSlice t len parts) (hpp : evp l parts.toList = some ps) (hr : ∀ w, (Instr.buildSlice t len ps.toArray).run P w = .ok (.slice (some ⟨w.heap.size, 0, none⟩) len len) (w.alloc (.cells cs T (0, 0))))
    (hg : o.guard = none) (hd : o.dst = some d) (hn : Nat.blt d n = true) (hok : ∀ N, Nok N) (hp : pl kk = .inr (fun v N' => ∃ g : Nat, True ∧ v = .slice (some ⟨g, 0, none⟩) len len ∧ N' = [(g, T, cs)]))
    (h : ∀ g, Z P ops Q n O w0 Nok pl rest (kk + 1) ((d, .slice (some ⟨g, 0, none⟩) len len) :: l) [(g, T, cs)] L) : Z P ops Q n O w0 Nok pl (o :: rest) kk l [] L :=
  z_eff (fun _ : Nat => True) (fun g => .slice (some ⟨g, 0, none⟩) len len) (fun g => [(g, T, cs)]) hg (fun a w hF hw => by
    have e : parts.map (fun p => (p.1, a.eval p.2)) = ps.toArray := by rw [← hF.evp hpp]; apply Array.ext'; simp
    have e' : (parts.map fun x => match x with | (i, x) => (i, a.eval x)) = ps.toArray := e
    have hx : (execOp a.eval o).run P w = .ok (.value (.slice (some ⟨w.heap.size, 0, none⟩) len len)) (w.alloc (.cells cs T (0, 0))) := by simp [execOp, ho, e', hr]
    unfold CalmE.effAt
    rw [hx]
    exact ⟨w.heap.size, trivial, rfl, Own.new hw T cs⟩) ⟨0, trivial⟩ (fun _ _ => hok _) hp (fun g _ a hF => by rw [hd]; exact h g _ (hF.put hn _))
theorem SlA.take {O : List Nat} {w : World} {sz : Nat} {A : Option Addr} {xs : List (List Value)} (h : SlA O w sz A xs) (k : Nat) : SlA O w sz A (xs.take k) := fun i c hc => by
  rw [List.getElem?_take] at hc
  split at hc
  · exact h i c hc
  · cases hc
theorem SlA.drop {O : List Nat} {w : World} {sz b off : Nat} {xs : List (List Value)} (h : SlA O w sz (some ⟨b, off, none⟩) xs) (k : Nat) : SlA O w sz (some ⟨b, off + k * sz, none⟩) (xs.drop k) := fun i c hc => by
  rw [List.getElem?_drop] at hc
  obtain ⟨h1, b', off', e, h2, h3⟩ := h (k + i) c hc
  injection e with e; injection e with e1 e2; subst e1; subst e2
  refine ⟨h1, b, off + k * sz, rfl, h2, fun j u hu => ?_⟩
  rw [show off + k * sz + i * sz + j = off + (k + i) * sz + j by rw [Nat.add_mul]; omega]
  exact h3 j u hu
theorem SlA.nil {O : List Nat} {w : World} {sz : Nat} {A : Option Addr} : SlA O w sz A [] := fun i c hc => by simp at hc
end Go.Proofs.Ytnfdefeafhepkaa.Wk
/- Valid walks. No condition. -/
namespace Go.Proofs.Ytnfdefeafhepkaa
set_option linter.unusedVariables false
set_option linter.unusedSimpArgs false
open Go.RowKit Mem Wk
attribute [local irreducible] Calls Wk.S Wk.C Wk.E Wk.X Wk.T Wk.Y Wk.anV Wk.orV Wk.andV Wk.shlV Wk.shrV Calm.wpLex CalmB.wpLex
def wkStep (p : Nat → Int) (q s : Sp) : Bool := eqSp s q || (besL p q.x q.y 4).any fun c => eqSp s c
theorem besL_max (p : Nat → Int) (x y : Int) : (besL p x y 4).length ≤ maxLen := by
  have := besL_len p x y 4; unfold maxLen; omega
end Go.Proofs.Ytnfdefeafhepkaa
/- Yards: that one cell can be reached from another is an equivalence; numbers of yards. Plain, no condition. -/
namespace Go.Proofs.Ytnfdefeafhepkaa
set_option linter.unusedVariables false
set_option linter.unusedSimpArgs false
open Go.RowKit Mem Wk
attribute [local irreducible] bfsN bfs
def cel (p : Nat → Int) (c : Sp) : Prop := isC (p 0) (p 1) c.x c.y = true
theorem besL_ex {p : Nat → Int} {x y : Int} {c : Sp} : ∀ {k : Nat}, c ∈ besL p x y k ↔ ∃ s : Nat, s < k ∧ canB p x y (s : Int) = true ∧ c = ⟨nextX x (s : Int), nextY y (s : Int)⟩
  | k => by
    unfold besL
    rw [List.mem_map]
    constructor
    · rintro ⟨s, hs, rfl⟩
      obtain ⟨h1, h2⟩ := List.mem_filter.1 hs
      exact ⟨s, List.mem_range.1 h1, h2, rfl⟩
    · rintro ⟨s, h1, h2, rfl⟩
      exact ⟨s, List.mem_filter.2 ⟨List.mem_range.2 h1, h2⟩, rfl⟩
theorem nbP_symm {p : Nat → Int} {a b : Sp} (ha : cel p a) (h : b ∈ nbP p a) : a ∈ nbP p b := by
  obtain ⟨s, hs, hc, rfl⟩ := besL_ex.1 h
  unfold canB at hc
  rw [Bool.and_eq_true] at hc
  obtain ⟨h1, h2⟩ := hc
  unfold cel at ha
  refine besL_ex.2 ?_
  have h4 : s = 0 ∨ s = 1 ∨ s = 2 ∨ s = 3 := by omega
  obtain ⟨x, y⟩ := a
  simp only at ha h1 h2 ⊢
  rcases h4 with rfl | rfl | rfl | rfl
  · refine ⟨2, by omega, ?_, ?_⟩
    · unfold canB
      simp [nextX, nextY, hdX, hdY, hdS] at h1 h2 ⊢
      exact ⟨ha, h2⟩
    · simp [nextX, nextY]
  · refine ⟨3, by omega, ?_, ?_⟩
    · unfold canB
      simp [nextX, nextY, hdX, hdY, hdS] at h1 h2 ⊢
      exact ⟨ha, h2⟩
    · simp [nextX, nextY]
  · refine ⟨0, by omega, ?_, ?_⟩
    · unfold canB
      simp [nextX, nextY, hdX, hdY, hdS] at h1 h2 ⊢
      exact ⟨ha, h2⟩
    · simp [nextX, nextY]
  · refine ⟨1, by omega, ?_, ?_⟩
    · unfold canB
      simp [nextX, nextY, hdX, hdY, hdS] at h1 h2 ⊢
      exact ⟨ha, h2⟩
    · simp [nextX, nextY]
end Go.Proofs.Ytnfdefeafhepkaa
/- Valid walks: what they are, step by step; the one that the laws draw. No condition but codes of at most 2^20 bytes. -/
namespace Go.Proofs.Ytnfdefeafhepkaa
set_option linter.unusedVariables false
set_option linter.unusedSimpArgs false
open Go.RowKit Mem Wk
attribute [local irreducible] Calls Wk.S Wk.C Wk.E Wk.X Wk.T Wk.Y Wk.Z Wk.anV Wk.orV Wk.andV Wk.shlV Wk.shrV Calm.wpLex CalmB.wpLex CalmE.wpLex bfsN bfs
/-- all cells but the stake's, each one step from the one before or the same -/
structure WkOk (p : Nat → Int) (a : Sp) (l : List Sp) : Prop where
  cell : ∀ c ∈ l, cel p c ∧ eqSp c a = false
  step : ∀ (i : Nat) (s t : Sp), l[i]? = some s → l[i + 1]? = some t → wkStep p s t = true
theorem WkOk.snoc {p : Nat → Int} {a : Sp} {l : List Sp} {s t : Sp} (h : WkOk p a (l ++ [s])) (hc : cel p t) (hn : eqSp t a = false) (hs : wkStep p s t = true) : WkOk p a (l ++ [s] ++ [t]) := by
  refine ⟨fun c hcm => ?_, fun i u v hu hv => ?_⟩
  · rcases List.mem_append.1 hcm with hcm | hcm
    · exact h.cell c hcm
    · rw [List.mem_singleton] at hcm; subst hcm; exact ⟨hc, hn⟩
  · by_cases e : i + 1 < (l ++ [s]).length
    · rw [List.getElem?_append_left e] at hv
      rw [List.getElem?_append_left (by omega)] at hu
      exact h.step i u v hu hv
    · have hil := (List.getElem?_eq_some_iff.1 hv).1
      simp at e hil
      have ei : i = l.length := by omega
      subst ei
      simp at hu hv
      subst hu; subst hv; exact hs
theorem WkOk.one {p : Nat → Int} {a t : Sp} (hc : cel p t) (hn : eqSp t a = false) : WkOk p a ([] ++ [t]) := by
  refine ⟨fun c h => ?_, fun i u v hu hv => ?_⟩
  · simp at h; subst h; exact ⟨hc, hn⟩
  · have := (List.getElem?_eq_some_iff.1 hv).1
    simp at this
theorem wkStep_self (p : Nat → Int) (s : Sp) : wkStep p s s = true := by unfold wkStep eqSp; simp
theorem wkStep_nb {p : Nat → Int} {s t : Sp} (h : t ∈ besL p s.x s.y 4) : wkStep p s t = true := by
  unfold wkStep
  rw [Bool.or_eq_true]
  right
  exact List.any_eq_true.2 ⟨t, h, by unfold eqSp; simp⟩
theorem spot_of_eq {a b : Sp} (h : eqSp a b = true) : a = b := by
  unfold eqSp at h
  simp at h
  obtain ⟨x, y⟩ := a
  obtain ⟨u, v⟩ := b
  simp only at h
  rw [h.1, h.2]
theorem wkStep_symm {p : Nat → Int} {s t : Sp} (hs : cel p s) (h : wkStep p s t = true) : wkStep p t s = true := by
  unfold wkStep at h
  rw [Bool.or_eq_true] at h
  rcases h with h | h
  · rw [spot_of_eq h]; exact wkStep_self p s
  · obtain ⟨c, hc, he⟩ := List.any_eq_true.1 h
    rw [spot_of_eq he]
    have := nbP_symm (a := s) (b := c) hs hc
    exact wkStep_nb (s := c) (t := s) this
end Go.Proofs.Ytnfdefeafhepkaa
