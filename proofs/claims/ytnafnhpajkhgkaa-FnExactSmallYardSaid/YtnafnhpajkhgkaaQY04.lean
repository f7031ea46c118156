import Derived.Below
import Derived.ChangeOld
import Derived.Deep.Slices
import Derived.OpenShut
import Derived.ProofKit
import Derived.Test.YtnafnhpajkhgkaaQY03
/- How the laws' arguments read: structs and arrays of numbers and bools, flat, cell by cell; slices of such. No condition. -/
namespace Go.Proofs.Ytnafnhpajkhgkaa
set_option linter.unusedVariables false
set_option linter.unusedSimpArgs false
open Go.RowKit Mem

/-- A cell's kind: a number's, or (none) a bool. -/
def IsCell (k : Option IntKind) (v : Value) : Prop := match k with
  | some k => ∃ n, v = .int k n ∧ (Lit.int k n).wf = true
  | none => ∃ b, v = .bool b
def flatFields (P : Program) (F : TypeId → Option (List (Option IntKind))) : List Field → Nat → Option (List (Option IntKind))
  | [], _ => some []
  | f :: fs, off => if f.offset = off then (F f.type).bind fun ks => if ks.length = P.cellsOf f.type then (flatFields P F fs (off + ks.length)).map (ks ++ ·) else none else none
def flatK (P : Program) : Nat → TypeId → Option (List (Option IntKind))
  | 0, _ => none
  | n + 1, t => match P.underlying t with
    | some (.int k) => some [some k]
    | some .bool => some [none]
    | some (.struct fs) => (flatFields P (flatK P n) fs.toList 0).bind fun ks => if ks.length = P.cellsOf t then some ks else none
    | some (.array m e) => (flatK P n e).bind fun ks => if ks.length = P.cellsOf e ∧ m * ks.length = P.cellsOf t then some (List.replicate m ks).flatten else none
    | _ => none

section
variable {H : Type} {enc : TypeId × Value → H} {P : Program} {w : World} {base : Nat} {spare : Nat → Bool} {held : Bool}
theorem flat_fields_reads {F : TypeId → Option (List (Option IntKind))} {n : Nat} {cs : List Value} (hF : ∀ (t : TypeId) (ks : List (Option IntKind)) (c : List Value) (y : DataW H × List MemPlace), F t = some ks → DataW.trod enc P w base spare held n t c = some y → c.length = P.cellsOf t → ∀ (i : Nat) (k : Option IntKind), ks[i]? = some k → ∃ v, c[i]? = some v ∧ IsCell k v) :
    ∀ (fs : List Field) (off : Nat) (ks : List (Option IntKind)), flatFields P F fs off = some ks → off + ks.length ≤ cs.length → (∀ f ∈ fs, ∃ y, DataW.trod enc P w base spare held n f.type ((cs.drop f.offset).take (P.cellsOf f.type)) = some y) →
      ∀ (i : Nat) (k : Option IntKind), ks[i]? = some k → ∃ v, cs[off + i]? = some v ∧ IsCell k v
  | [], off, ks, h, _, _, i, k, hk => by
    simp [flatFields] at h; subst h; simp at hk
  | f :: fs, off, ks, h, hl, hr, i, k, hk => by
    simp only [flatFields] at h
    split at h
    · rename_i ho
      obtain ⟨k1, h1, h2⟩ := Option.bind_eq_some_iff.1 h
      split at h2
      · rename_i hlen
        obtain ⟨k2, h3, rfl⟩ := Option.map_eq_some_iff.1 h2
        rw [List.length_append] at hl
        by_cases hi : i < k1.length
        · rw [List.getElem?_append_left hi] at hk
          obtain ⟨y, hy⟩ := hr f (by simp)
          rw [ho] at hy
          obtain ⟨v, hv, hc⟩ := hF f.type k1 _ y h1 hy (by simp; omega) i k hk
          rw [List.getElem?_take, if_pos (by omega), List.getElem?_drop] at hv
          exact ⟨v, hv, hc⟩
        · rw [List.getElem?_append_right (by omega)] at hk
          obtain ⟨v, hv, hc⟩ := flat_fields_reads hF fs (off + k1.length) k2 h3 (by omega) (fun g hg => hr g (List.mem_cons_of_mem _ hg)) (i - k1.length) k hk
          exact ⟨v, by rw [show off + i = off + k1.length + (i - k1.length) by omega]; exact hv, hc⟩
      · cases h2
    · cases h
theorem flat_flatten {m : Nat} {ks : List (Option IntKind)} {i : Nat} {k : Option IntKind} (h : (List.replicate m ks).flatten[i]? = some k) : ∃ j r, j < m ∧ r < ks.length ∧ i = j * ks.length + r ∧ ks[r]? = some k := by
  induction m generalizing i with
  | zero => simp at h
  | succ m ih =>
    rw [List.replicate_succ, List.flatten_cons] at h
    by_cases hi : i < ks.length
    · rw [List.getElem?_append_left hi] at h
      exact ⟨0, i, by omega, hi, by omega, h⟩
    · rw [List.getElem?_append_right (by omega)] at h
      obtain ⟨j, r, h1, h2, h3, h4⟩ := ih h
      exact ⟨j + 1, r, by omega, h2, by rw [Nat.succ_mul]; omega, h4⟩
/-- A reading of such a type: each cell is what its kind says. -/
theorem flat_reads : ∀ (n m : Nat) (t : TypeId) (ks : List (Option IntKind)) (cs : List Value) (y : DataW H × List MemPlace), flatK P n t = some ks → DataW.trod enc P w base spare held m t cs = some y → cs.length = P.cellsOf t →
    ∀ (i : Nat) (k : Option IntKind), ks[i]? = some k → ∃ v, cs[i]? = some v ∧ IsCell k v
  | 0, _, _, _, _, _, h, _, _, _, _, _ => by simp [flatK] at h
  | n + 1, m, t, ks, cs, y, h, hy, hl, i, k, hk => by
    unfold flatK at h
    split at h
    · rename_i kk hu
      simp at h; subst h
      obtain ⟨x, rfl, _, hw⟩ := DataW.trod_int hu hy
      match i with
      | 0 => simp at hk; subst hk; exact ⟨_, rfl, x, rfl, hw⟩
      | i + 1 => simp at hk
    · rename_i hu
      simp at h; subst h
      obtain ⟨b, rfl, _⟩ := DataW.trod_bool hu hy
      match i with
      | 0 => simp at hk; subst hk; exact ⟨_, rfl, b, rfl⟩
      | i + 1 => simp at hk
    · rename_i fs hu
      obtain ⟨k1, h1, h2⟩ := Option.bind_eq_some_iff.1 h
      split at h2
      · rename_i hlen
        simp at h2; subst h2
        obtain ⟨xs, m', rfl, _, hcl, hxl, hf⟩ := DataW.trod_struct hu hy
        have := flat_fields_reads (P := P) (w := w) (base := base) (spare := spare) (held := held) (enc := enc) (n := m') (cs := cs) (F := flatK P n) (fun t ks c y h1 h2 h3 => flat_reads n m' t ks c y h1 h2 h3) fs.toList 0 k1 h1 (by omega) (fun f hfm => by
          obtain ⟨j, hj, rfl⟩ := List.mem_iff_getElem.1 hfm
          have hj' : j < fs.size := by simpa using hj
          have := hf j fs[j] (Array.getElem?_eq_getElem hj')
          rw [List.getElem?_eq_getElem (by omega)] at this
          exact ⟨_, by simpa using this⟩) i k hk
        simpa using this
      · cases h2
    · rename_i mm e hu
      obtain ⟨k1, h1, h2⟩ := Option.bind_eq_some_iff.1 h
      split at h2
      · rename_i hlen
        simp at h2; subst h2
        obtain ⟨xs, m', rfl, _, hcl, hxl, hf⟩ := DataW.trod_array hu hy
        obtain ⟨j, r, hj, hr, rfl, hkr⟩ := flat_flatten hk
        have hx := hf j hj
        rw [List.getElem?_eq_getElem (by omega)] at hx
        have hbound : j * k1.length + k1.length ≤ cs.length := by
          rw [hcl, ← hlen.2, ← Nat.succ_mul]
          exact Nat.mul_le_mul_right _ hj
        obtain ⟨v, hv, hc⟩ := flat_reads n m' e k1 _ _ h1 hx (by rw [List.length_take, List.length_drop, ← hlen.1]; omega) r k hkr
        rw [List.getElem?_take, if_pos (by omega), List.getElem?_drop, ← hlen.1] at hv
        exact ⟨v, hv, hc⟩
      · cases h2
    · cases h

/-- A struct or array by value. -/
theorem open_flat {r : Reach} {b0 : Nat} {t : TypeId} {n : Nat} {ks : List (Option IntKind)} {v : Value} {d : DataW H} {p : List MemPlace} (hk : flatK P n t = some ks) (hs : aggT P t = true) (hl : ks.length = P.cellsOf t)
    (hv : Value.okWide P w r b0 t v) (h : DataW.Trod enc P w base spare held t v d p) : ∃ cs, v = .agg cs ∧ cs.size = ks.length ∧ ∀ (i : Nat) (k : Option IntKind), ks[i]? = some k → ∃ u, cs[i]? = some u ∧ IsCell k u := by
  obtain ⟨cs, rfl, hsz⟩ : ∃ cs, v = .agg cs ∧ cs.size = P.cellsOf t := by
    unfold aggT at hs
    cases hu : P.underlying t with
    | none => simp [hu] at hs
    | some d =>
      cases d <;> simp [hu] at hs
      · simp only [Value.okWide, hu] at hv
        obtain ⟨cs, h1, h2, _⟩ := hv
        exact ⟨cs, h1, h2⟩
      · simp only [Value.okWide, hu] at hv
        obtain ⟨cs, h1, h2, _⟩ := hv
        exact ⟨cs, h1, h2⟩
  obtain ⟨fuel, hf⟩ := h
  refine ⟨cs, rfl, by omega, fun i k hi => ?_⟩
  have := flat_reads n fuel t ks cs.toList (d, p) hk hf (by simpa using hsz) i k hi
  simpa using this

/-- A slice that reads: xs are the elements' cells. -/
def Sl (w : World) (sz : Nat) (v : Value) (xs : List (List Value)) : Prop :=
  ∃ A cap, v = .slice A xs.length cap ∧ xs.length ≤ cap ∧ cap ≤ maxLen ∧ ∀ (i : Nat) (c : List Value), xs[i]? = some c → c.length = sz ∧ ∃ b off, A = some ⟨b, off, none⟩ ∧ ∀ (j : Nat) (u : Value), c[j]? = some u → w.cell? ⟨b, off + i * sz + j, none⟩ = some u
theorem Sl.below {w w' : World} {sz : Nat} {v : Value} {xs : List (List Value)} (h : Sl w sz v xs) (hb : Below w.heap.size w w') : Sl w' sz v xs := by
  obtain ⟨A, cap, hv, h1, h2, h3⟩ := h
  refine ⟨A, cap, hv, h1, h2, fun i c hc => ?_⟩
  obtain ⟨hl, b, off, hA, hcell⟩ := h3 i c hc
  refine ⟨hl, b, off, hA, fun j u hu => ?_⟩
  have := hcell j u hu
  rw [hb.cell (p := ⟨b, off + i * sz + j, none⟩) (World.block_lt_of_cell? w _ this)]
  exact this

end

theorem wf_i8 {n : Int} (h : (Lit.int .i8 n).wf = true) : -128 ≤ n ∧ n ≤ 127 := by simpa [Lit.wf, IntKind.min, IntKind.max, IntKind.signed, IntKind.bits] using h
theorem wf_i16 {n : Int} (h : (Lit.int .i16 n).wf = true) : -32768 ≤ n ∧ n ≤ 32767 := by simpa [Lit.wf, IntKind.min, IntKind.max, IntKind.signed, IntKind.bits] using h
theorem wf_u16 {n : Int} (h : (Lit.int .u16 n).wf = true) : 0 ≤ n ∧ n ≤ 65535 := by simpa [Lit.wf, IntKind.min, IntKind.max, IntKind.signed, IntKind.bits] using h
theorem wf_i64 {n : Int} (h : (Lit.int .i64 n).wf = true) : -9223372036854775808 ≤ n ∧ n ≤ 9223372036854775807 := by simpa [Lit.wf, IntKind.min, IntKind.max, IntKind.signed, IntKind.bits] using h

def pasK : List (Option IntKind) := List.replicate 2 (some .i8) ++ List.replicate 100 (some .i16) ++ List.replicate 20 (some .u16)
theorem pasK_get (i : Nat) (h : i < 122) : pasK[i]? = some (some (pk i)) := by
  simp only [pasK, pk, List.append_assoc]
  by_cases h1 : i < 2
  · rw [List.getElem?_append_left (by simpa using h1), if_pos h1, List.getElem?_replicate, if_pos h1]
  · rw [List.getElem?_append_right (by simp; omega), if_neg h1, List.length_replicate]
    by_cases h2 : i < 102
    · rw [List.getElem?_append_left (by simp; omega), if_pos h2, List.getElem?_replicate, if_pos (by omega)]
    · rw [List.getElem?_append_right (by simp; omega), if_neg h2, List.length_replicate, List.getElem?_replicate, if_pos (by omega)]
theorem pv_of_flat {cs : Array Value} (hs : cs.size = 122) (h : ∀ (i : Nat) (k : Option IntKind), pasK[i]? = some k → ∃ u, cs[i]? = some u ∧ IsCell k u) : ∃ p, Pv p cs := by
  have h' : ∀ i, i < 122 → cs[i]? = some (.int (pk i) (intOf (cs.getD i undef))) ∧ (Lit.int (pk i) (intOf (cs.getD i undef))).wf = true := by
    intro i hi
    obtain ⟨u, hu, n, rfl, hw⟩ := h i _ (pasK_get i hi)
    have : cs.getD i undef = .int (pk i) n := by simp [Array.getD_eq_getD_getElem?, hu]
    rw [this]
    exact ⟨hu, hw⟩
  refine ⟨fun i => intOf (cs.getD i undef), hs, fun i hi => (h' i hi).1, fun i hi => ?_, fun i h1 h2 => ?_, fun i h1 h2 => ?_⟩
  · have := (h' i (by omega)).2; unfold pk at this; rw [if_pos hi] at this; exact wf_i8 this
  · have := (h' i (by omega)).2; unfold pk at this; rw [if_neg (by omega), if_pos h2] at this; exact wf_i16 this
  · have := (h' i (by omega)).2; unfold pk at this; rw [if_neg (by omega), if_neg (by omega)] at this; exact wf_u16 this
/-! the cells of the small structs -/
structure Sp where
  x : Int
  y : Int
def Sp.cells (s : Sp) : List Value := [.int .i8 s.x, .int .i8 s.y]
def Sp.ok (s : Sp) : Prop := -128 ≤ s.x ∧ s.x ≤ 127 ∧ -128 ≤ s.y ∧ s.y ≤ 127
structure Sk where
  x : Int
  y : Int
  r : Int
def Sk.cells (s : Sk) : List Value := [.int .i8 s.x, .int .i8 s.y, .int .i16 s.r]
def Sk.ok (s : Sk) : Prop := -128 ≤ s.x ∧ s.x ≤ 127 ∧ -128 ≤ s.y ∧ s.y ≤ 127 ∧ -32768 ≤ s.r ∧ s.r ≤ 32767
structure Gt where
  x : Int
  y : Int
  u : Int
  v : Int
  rope : Int
  eats : Int
  likes : Int
def Gt.cells (g : Gt) : List Value := [.int .i8 g.x, .int .i8 g.y, .int .i8 g.u, .int .i8 g.v, .int .i16 g.rope, .int .i16 g.eats, .int .i8 g.likes]
def Gt.ok (g : Gt) : Prop := (-128 ≤ g.x ∧ g.x ≤ 127 ∧ -128 ≤ g.y ∧ g.y ≤ 127) ∧ (-128 ≤ g.u ∧ g.u ≤ 127 ∧ -128 ≤ g.v ∧ g.v ≤ 127) ∧ (-32768 ≤ g.rope ∧ g.rope ≤ 32767) ∧ (-32768 ≤ g.eats ∧ g.eats ≤ 32767) ∧ -128 ≤ g.likes ∧ g.likes ≤ 127
structure Hd where
  x : Int
  y : Int
  s : Bool
def Hd.cells (h : Hd) : List Value := [.int .i8 h.x, .int .i8 h.y, .bool h.s]
def Hd.ok (h : Hd) : Prop := -128 ≤ h.x ∧ h.x ≤ 127 ∧ -128 ≤ h.y ∧ h.y ≤ 127
def spK : List (Option IntKind) := [some .i8, some .i8]
theorem sp_of_flat {cs : List Value} (hs : cs.length = 2) (h : ∀ (i : Nat) (k : Option IntKind), spK[i]? = some k → ∃ u, cs[i]? = some u ∧ IsCell k u) : ∃ s : Sp, cs = s.cells ∧ s.ok := by
  obtain ⟨_, h0, x, rfl, w0⟩ := h 0 _ rfl
  obtain ⟨_, h1, y, rfl, w1⟩ := h 1 _ rfl
  refine ⟨⟨x, y⟩, ?_, (wf_i8 w0).1, (wf_i8 w0).2, (wf_i8 w1).1, (wf_i8 w1).2⟩
  match cs, hs with
  | [a, b], _ => simp at h0 h1; simp [Sp.cells, h0, h1]
end Go.Proofs.Ytnafnhpajkhgkaa
/- Spots are handed on as they are; both SquareOf return the square of the distance. No condition. -/
namespace Go.Proofs.Ytnafnhpajkhgkaa
set_option linter.unusedVariables false
set_option linter.unusedSimpArgs false
open Go.RowKit Mem

set_option maxRecDepth 100000 in
theorem toSpot_any (x y : Int) (w : World) :
    Calls Try.prog 20 #[.agg #[.int .i8 x, .int .i8 y]] w fun e w' => e = .returned (.agg #[.int .i8 x, .int .i8 y]) ∧ Below w.heap.size w w' := by
  have hL := Own.start w
  go_enter Try.func20, Try.ntmps20
  go_wp2_with (first
    | ((with_reducible refine gate_dst (N := 1) rfl ?_); refine wpl_box (cs := #[.int .i8 x, .int .i8 y]) hL rfl rfl rfl ?_; clear hL; intro g1 w1 hL)
    | ((with_reducible refine gate_dst (N := 2) rfl ?_); refine wpl_alloc (z := .agg (#[.int .i8 0, .int .i8 0])) (cs := #[.int .i8 0, .int .i8 0]) hL rfl rfl (by kernel_rfl) rfl ?_; clear hL; intro g2 w2 hL)
    | ((with_reducible refine gate_dst (N := 3) rfl ?_); refine wpl_alloc (z := .agg (#[.int .i8 0, .int .i8 0])) (cs := #[.int .i8 0, .int .i8 0]) hL rfl rfl (by kernel_rfl) rfl ?_; clear hL; intro g3 w3 hL)
    | ((with_reducible refine gate_load rfl ?_); first | (refine wpl_load_2 hL rfl rfl (by kernel_rfl) rfl (by first | rfl | assumption) ?_))
    | ((with_reducible refine gate_load (ty := 52) rfl ?_); refine wpl_loadW_0 hL rfl rfl (by kernel_rfl) rfl rfl (by kernel_rfl) ?_)
    | ((with_reducible refine gate_store rfl ?_); first | (refine wpl_store1_0 hL rfl rfl (by kernel_rfl) rfl rfl rfl (by first | assumption | (simp; done) | (simp [*]; done)) ?_; clear hL; intro w0_ hL; (try simp only [Act.eval, Array.getD_eq_getD_getElem?, List.getElem?_toArray, List.getElem?_cons_zero, List.getElem?_cons_succ, Option.getD_some, List.setIfInBounds_toArray, List.set_cons_zero, List.set_cons_succ] at hL)))
    | ((with_reducible refine gate_store (ty := 52) rfl ?_); refine wpl_storeW_1 hL rfl rfl rfl rfl rfl (by kernel_rfl) (by simp [Value.oneCell']) rfl ?_; clear hL; intro w5 hL)
    | ((with_reducible refine post_gate ?_); exact post1 rfl (res_cell (hL.at_ (i := 1) rfl) rfl (by kernel_rfl) rfl (by kernel_rfl)) rfl ⟨rfl, hL.toBelow⟩))

end Go.Proofs.Ytnafnhpajkhgkaa
