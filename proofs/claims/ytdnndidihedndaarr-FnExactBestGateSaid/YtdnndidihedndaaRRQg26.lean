import Derived.Test.YtdnndidihedndaaRRQg24
import Derived.Test.YtdnndidihedndaaRRQg25
/- WeakSides: both functions. No condition. -/
namespace Go.Proofs.YtdnndidihedndaaRR
set_option linter.unusedVariables false
set_option linter.unusedSimpArgs false
open Go.RowKit Mem Wk
theorem Wk.r_slLH {P : Program} {n : Nat} {O : List Nat} {w0 : World} {ll : List (Nat × Value)} {L : List (Nat × TypeId × Array Value)} {o : Oper} {x y z : Operand} (tb : Tb P) {t el sz : Nat} {g off len cap i h : Nat} {kd kd' : IntKind} (ho : o.op = .slice t x (some y) (some z) none) (hx : ev ll x = some (.slice (some ⟨g, off, none⟩) len cap)) (hy : ev ll y = some (.int kd (i : Int))) (hz : ev ll z = some (.int kd' (h : Int))) (ht : lkT tb.l t = some (el, sz)) (h1 : i ≤ h) (h2 : h ≤ cap) (hlt : i < cap) : Rn P n O w0 ll L o (.slice (some ⟨g, off + i * sz, none⟩) (h - i) (cap - i)) := fun a w hF hL => by
  have hu := (tb.slice ht).1
  have he : P.underlying t = some (.slice (P.elem t)) := by rw [hu]; simp [Program.elem, hu]
  have hel : P.elem t = el := by simp [Program.elem, hu]
  have hs := run_size (tb.slice ht).2 w
  simp only [execOp, ho, Option.map_none, Option.map_some, hF.eval hx, hF.eval hy, hF.eval hz, Sem.run_bind, run_sliceAt_slice w t _ _ _ _ he, run_slice_lh w t (some ⟨g, off, none⟩) len cap he kd kd' (i : Int) (h : Int) (by omega) (by omega) (by omega), hel, hs, Result.andThen_ok, Int.toNat_natCast, sliced_l hlt, Sem.run_pure]
theorem SlA.sub1 {O : List Nat} {w : World} {sz b off k : Nat} {xs : List (List Value)} {c : List Value} (h : SlA O w sz (some ⟨b, off, none⟩) xs) (hk : xs[k]? = some c) : SlA O w sz (some ⟨b, off + k * sz, none⟩) [c] := fun i d hd => by
  cases i with
  | zero =>
    simp at hd; subst hd
    obtain ⟨h1, b', off', e, hO, hu⟩ := h k c hk
    simp at e; obtain ⟨rfl, rfl⟩ := e
    exact ⟨h1, _, _, rfl, hO, fun j u hj => by have := hu j u hj; simpa using this⟩
  | succ i => simp at hd
attribute [local irreducible] Calls Wk.S Wk.C Wk.E Wk.X Wk.T Wk.Y Wk.anV Wk.orV Wk.andV Wk.shlV Wk.shrV Calm.wpLex CalmB.wpLex bfsN putP hursL
theorem one_slH (h : Hd) {w : World} {b : Nat} {T : TypeId} (hb : w.heap[b]? = some (.cells #[.int .i8 h.x, .int .i8 h.y, .bool h.s] T (0, 0))) : SlA [] w 3 (some ⟨b, 0, none⟩) ([h].map Hd.cells) := by
  have hA : Ap 3 1 1 #[.int .i8 h.x, .int .i8 h.y, .bool h.s] (([h].map Hd.cells).flatten) := ⟨rfl, Nat.le_refl _, by unfold maxLen; simp, rfl, rfl⟩
  exact hA.slA (lenHd [h]) hb
theorem foldP_keep (on : Bool) : ∀ (l : List Hd) (p : Nat → Int) {i : Nat}, i < 102 → foldP p l on i = p i
  | [], _, _, _ => rfl
  | a :: l, p, i, hi => (foldP_keep on l (putP p a.x a.y a.s on) hi).trans (putP_keep _ _ _ _ _ hi)
theorem inP_one {p : Nat → Int} {h : Hd} (hh : isH p h = true) : InP [h] := fun a ha => by
  simp at ha; subst ha
  obtain ⟨hr, _⟩ := isH_facts hh
  exact ⟨⟨hr.1, hr.2.1⟩, hr.2.2⟩
end Go.Proofs.YtdnndidihedndaaRR
