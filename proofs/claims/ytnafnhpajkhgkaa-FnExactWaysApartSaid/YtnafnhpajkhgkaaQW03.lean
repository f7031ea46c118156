import Derived.Test.YtnafnhpajkhgkaaProg
import Derived.BigQuiet
import Derived.Deep.LoopGhost
import Derived.Deep.QuietTactic
import Derived.KernelRfl
import Derived.Lib.Hide
import Derived.WalkKit
import Derived.Below
import Derived.ChangeOld
import Derived.Deep.Slices
import Derived.OpenShut
import Derived.ProofKit
import Derived.Test.YtnafnhpajkhgkaaQW01
import Derived.Test.YtnafnhpajkhgkaaQW02
/- The seat's tables: fields, arrays, slices, sizes, kinds of its types. No condition. -/
namespace Go.Proofs.Ytnafnhpajkhgkaa
open Go Wk
def tF : List (Nat × Nat × Nat) := [(13, 0, 0), (13, 1, 1), (28, 0, 0), (28, 1, 1), (28, 2, 2), (28, 3, 102), (28, 4, 112), (29, 0, 0), (29, 1, 1), (29, 2, 2), (29, 3, 102), (29, 4, 112), (32, 0, 0), (32, 1, 1), (32, 2, 2), (32, 3, 102), (32, 4, 112), (48, 0, 0), (48, 1, 1), (49, 0, 0), (49, 1, 1), (52, 0, 0), (52, 1, 1), (65, 0, 0), (65, 1, 2), (66, 0, 0), (66, 1, 2), (87, 0, 0), (87, 1, 1), (87, 2, 2), (87, 3, 3), (88, 0, 0), (88, 1, 1), (88, 2, 2), (88, 3, 3)]
def tA : List (Nat × Nat × Nat) := [(24, 10, 1), (25, 10, 10), (27, 10, 1), (77, 10, 10), (89, 10, 1), (90, 10, 10), (127, 10, 1), (128, 10, 10)]
def tL : List (Nat × Nat × Nat) := [(30, 49, 2), (36, 52, 2), (41, 36, 1), (55, 66, 3), (130, 5, 1), (142, 2, 1), (160, 3, 1)]
def tS : List (Nat × Bool × Nat) := [(1, false, 1), (2, false, 1), (3, false, 1), (4, false, 1), (5, false, 1), (9, false, 1), (12, false, 1), (13, true, 2), (20, false, 1), (21, false, 1), (22, false, 1), (23, false, 1), (24, true, 10), (25, true, 100), (26, false, 1), (27, true, 10), (28, true, 122), (29, true, 122), (30, false, 1), (31, false, 1), (32, true, 122), (34, false, 1), (35, false, 1), (36, false, 1), (37, false, 1), (38, false, 1), (39, false, 1), (40, false, 1), (41, false, 1), (43, false, 1), (44, false, 1), (45, false, 1), (46, false, 1), (47, false, 1), (48, true, 2), (49, true, 2), (51, false, 1), (52, true, 2), (53, false, 1), (54, false, 1), (55, false, 1), (57, false, 1), (58, false, 1), (59, false, 1), (60, false, 1), (61, false, 1), (62, false, 1), (63, false, 1), (64, false, 1), (65, true, 3), (66, true, 3), (67, false, 1), (68, false, 1), (69, false, 1), (70, false, 1), (71, false, 1), (72, false, 1), (73, false, 1), (74, false, 1), (75, false, 1), (76, false, 1), (77, true, 100), (78, false, 1), (79, false, 1), (80, false, 1), (81, false, 1), (82, false, 1), (83, false, 1), (84, false, 1), (85, false, 1), (86, false, 1), (87, true, 4), (88, true, 4), (89, true, 10), (90, true, 100), (91, false, 1), (92, false, 1), (93, false, 1), (94, false, 1), (95, false, 1), (96, false, 1), (97, false, 1), (98, false, 1), (99, false, 1), (100, false, 1), (101, false, 1), (102, false, 1), (103, false, 1), (104, false, 1), (105, false, 1), (106, false, 1), (107, false, 1), (108, false, 1), (109, false, 1), (110, false, 1), (111, false, 1), (113, false, 1), (114, false, 1), (115, false, 1), (116, false, 1), (117, false, 1), (118, false, 1), (119, false, 1), (120, false, 1), (121, false, 1), (122, false, 1), (123, false, 1), (124, false, 1), (125, false, 1), (126, false, 1), (127, true, 10), (128, true, 100), (129, false, 1), (130, false, 1), (131, false, 1), (132, false, 1), (133, false, 1), (134, false, 1), (135, false, 1), (136, false, 1), (137, false, 1), (138, false, 1), (139, false, 1), (140, false, 1), (141, false, 1), (142, false, 1), (143, false, 1), (144, false, 1), (145, false, 1), (146, false, 1), (147, false, 1), (148, false, 1), (151, false, 1), (152, false, 1), (153, false, 1), (155, false, 1), (156, false, 1), (157, false, 1), (158, false, 1), (159, false, 1), (160, false, 1), (161, false, 1), (162, false, 1), (163, false, 1), (164, false, 1), (165, false, 1), (167, false, 1), (168, false, 1), (169, false, 1), (170, false, 1), (171, false, 1), (172, false, 1), (173, false, 1), (174, false, 1), (176, false, 1), (177, false, 1), (178, false, 1), (184, false, 1), (187, false, 1), (188, false, 1), (193, false, 1), (194, false, 1)]
def tK : List (Nat × IntKind) := [(2, .i64), (3, .i64), (5, .u8), (12, .u64), (21, .i32), (22, .i8), (23, .i16), (26, .u16), (115, .u64), (157, .u32), (159, .u64)]
theorem tF_ok : tF.all (chkF Try.prog) = true := by kernel_rfl
theorem tA_ok : tA.all (chkA Try.prog) = true := by kernel_rfl
theorem tL_ok : tL.all (chkL Try.prog) = true := by kernel_rfl
theorem tS_ok : tS.all (chkS Try.prog) = true := by kernel_rfl
theorem tK_ok : tK.all (chkK Try.prog) = true := by kernel_rfl
def tb : Tb Try.prog := ⟨tF, tA, tL, tS, tK, tF_ok, tA_ok, tL_ok, tS_ok, tK_ok⟩
end Go.Proofs.Ytnafnhpajkhgkaa
/- Plain words: arrays of numbers, spots, pastures as cells. No condition. -/
namespace Go.Proofs.Ytnafnhpajkhgkaa
set_option linter.unusedVariables false
set_option linter.unusedSimpArgs false
open Go.RowKit Mem

theorem min2_int (k k' : IntKind) (x y : Int) : Builtin.min2 (.int k x) (.int k' y) = pure (.int k (min x y)) := by
  simp only [Builtin.min2]; congr 2; omega
theorem min_two (ats : Array TypeId) (ty : TypeId) (a b : Value) : Builtin.min_ ats ty #[a, b] = (Builtin.min2 a b >>= fun s => pure s) := by simp only [Builtin.min_, List.foldlM_cons, List.foldlM_nil]
/-- n cells, each a number of this kind -/
def IntsOf (k : IntKind) (n : Nat) (cs : Array Value) : Prop := cs.size = n ∧ ∀ j, j < n → ∃ x, cs[j]? = some (.int k x)
theorem IntsOf.one {k : IntKind} {n : Nat} {cs : Array Value} (h : IntsOf k n cs) : ∀ v ∈ cs.toList, v.oneCell' = true := by
  intro v hv
  obtain ⟨j, hj, rfl⟩ := List.mem_iff_getElem.1 hv
  obtain ⟨x, hx⟩ := h.2 j (by simpa [h.1] using hj)
  have : cs.toList[j] = .int k x := by
    have h2 : cs.toList[j]? = some (.int k x) := by simpa using hx
    exact (List.getElem?_eq_some_iff.1 h2).2
  rw [this]; rfl
theorem IntsOf.part {k : IntKind} {n : Nat} {cs : Array Value} (h : IntsOf k n cs) (off m : Nat) (hm : off + m ≤ n) : IntsOf k m (cs.extract off (off + m)) := by
  refine ⟨by have := h.1; simp; omega, fun j hj => ?_⟩
  obtain ⟨x, hx⟩ := h.2 (off + j) (by omega)
  refine ⟨x, ?_⟩
  rw [Array.getElem?_extract, if_pos (by have := h.1; omega)]
  exact hx
theorem arr_ext {n : Nat} {a b : Array Value} (ha : a.size = n) (hb : b.size = n) (h : ∀ j, j < n → a[j]? = b[j]?) : a = b := by
  apply Array.ext_getElem?
  intro j
  by_cases hj : j < n
  · exact h j hj
  · rw [Array.getElem?_eq_none (by omega), Array.getElem?_eq_none (by omega)]
theorem set_prefix {k : Nat} {o cs : Array Value} {v : Value} (hfit : k < o.size) (hv : cs[k]? = some v) (HP : ∀ j, j < k → o[j]? = cs[j]?) : ∀ j, j < k + 1 → (o.setIfInBounds k v)[j]? = cs[j]? := fun j hj => by
  by_cases e : j = k
  · subst e; simp [hfit, hv]
  · rw [Array.getElem?_setIfInBounds_ne (by omega)]; exact HP j (by omega)
theorem splice_prefix {k m : Nat} {o cs : Array Value} (hfit : k * m + m ≤ o.size) (hcs : k * m + m ≤ cs.size) (HP : ∀ j, j < k * m → o[j]? = cs[j]?) : ∀ j, j < (k + 1) * m → (splice o (k * m) (cs.extract (k * m) (k * m + m)))[j]? = cs[j]? := fun j hj => by
  have e1 : (k + 1) * m = k * m + m := Nat.succ_mul k m
  have hs : (cs.extract (k * m) (k * m + m)).size = m := by simp; omega
  rw [splice_get _ _ _ (by rw [hs]; exact hfit), hs]
  by_cases e : k * m ≤ j
  · rw [if_pos ⟨e, by omega⟩, Array.getElem?_extract, if_pos (by omega)]
    congr 1
    omega
  · rw [if_neg (by omega)]; exact HP j (by omega)

/-- n zeros of a kind -/
def zr (k : IntKind) (n : Nat) : Array Value := Array.replicate n (.int k 0)
theorem zr_size (k : IntKind) (n : Nat) : (zr k n).size = n := by simp [zr]
/-- the kind of a pasture's cell -/
def pk (i : Nat) : IntKind := if i < 2 then .i8 else if i < 102 then .i16 else .u16
/-- a pasture's cells: Wide, High, 100 of grass, 10 of east, 10 of south -/
structure Pv (p : Nat → Int) (cs : Array Value) : Prop where
  size : cs.size = 122
  get : ∀ i, i < 122 → cs[i]? = some (.int (pk i) (p i))
  i8 : ∀ i, i < 2 → -128 ≤ p i ∧ p i ≤ 127
  i16 : ∀ i, 2 ≤ i → i < 102 → -32768 ≤ p i ∧ p i ≤ 32767
  u16 : ∀ i, 102 ≤ i → i < 122 → 0 ≤ p i ∧ p i ≤ 65535
theorem Pv.one {p : Nat → Int} {cs : Array Value} (h : Pv p cs) : ∀ v ∈ cs.toList, v.oneCell' = true := by
  intro v hv
  obtain ⟨j, hj, rfl⟩ := List.mem_iff_getElem.1 hv
  have hj' : j < 122 := by simpa [h.size] using hj
  have h2 : cs.toList[j]? = some (.int (pk j) (p j)) := by simpa using h.get j hj'
  rw [(List.getElem?_eq_some_iff.1 h2).2]; rfl
theorem Pv.g0 {p : Nat → Int} {cs : Array Value} (h : Pv p cs) : cs[0]? = some (.int .i8 (p 0)) := h.get 0 (by omega)
theorem Pv.g1 {p : Nat → Int} {cs : Array Value} (h : Pv p cs) : cs[1]? = some (.int .i8 (p 1)) := h.get 1 (by omega)
theorem Pv.grass {p : Nat → Int} {cs : Array Value} (h : Pv p cs) (i : Nat) (h1 : 2 ≤ i) (h2 : i < 102) : cs[i]? = some (.int .i16 (p i)) := by
  have := h.get i (by omega)
  unfold pk at this
  rwa [if_neg (by omega), if_pos h2] at this
theorem Pv.side {p : Nat → Int} {cs : Array Value} (h : Pv p cs) (i : Nat) (h1 : 102 ≤ i) (h2 : i < 122) : cs[i]? = some (.int .u16 (p i)) := by
  have := h.get i h2
  unfold pk at this
  rwa [if_neg (by omega), if_neg (by omega)] at this
theorem Pv.ints16 {p : Nat → Int} {cs : Array Value} (h : Pv p cs) : IntsOf .i16 100 (cs.extract 2 102) := by
  refine ⟨by have := h.size; simp; omega, fun j hj => ⟨p (2 + j), ?_⟩⟩
  rw [Array.getElem?_extract, if_pos (by have := h.size; omega)]
  exact h.grass _ (by omega) (by omega)
theorem Pv.intsE {p : Nat → Int} {cs : Array Value} (h : Pv p cs) : IntsOf .u16 10 (cs.extract 102 112) := by
  refine ⟨by have := h.size; simp; omega, fun j hj => ⟨p (102 + j), ?_⟩⟩
  rw [Array.getElem?_extract, if_pos (by have := h.size; omega)]
  exact h.side _ (by omega) (by omega)
theorem Pv.intsS {p : Nat → Int} {cs : Array Value} (h : Pv p cs) : IntsOf .u16 10 (cs.extract 112 122) := by
  refine ⟨by have := h.size; simp; omega, fun j hj => ⟨p (112 + j), ?_⟩⟩
  rw [Array.getElem?_extract, if_pos (by have := h.size; omega)]
  exact h.side _ (by omega) (by omega)
/-- the cells of the zero pasture -/
def zP : Array Value := ((List.replicate 2 (Value.int .i8 0)) ++ List.replicate 100 (Value.int .i16 0) ++ List.replicate 20 (Value.int .u16 0)).toArray
theorem zP_pv : Pv (fun _ => 0) zP := by
  refine ⟨rfl, fun i hi => ?_, fun _ _ => by omega, fun _ _ _ => by omega, fun _ _ _ => by omega⟩
  simp only [zP, pk, List.getElem?_toArray, List.append_assoc]
  by_cases h1 : i < 2
  · rw [List.getElem?_append_left (by simpa using h1), if_pos h1, List.getElem?_replicate, if_pos h1]
  · rw [List.getElem?_append_right (by simp; omega), if_neg h1, List.length_replicate]
    by_cases h2 : i < 102
    · rw [List.getElem?_append_left (by simp; omega), if_pos h2, List.getElem?_replicate, if_pos (by omega)]
    · rw [List.getElem?_append_right (by simp; omega), if_neg h2, List.length_replicate, List.getElem?_replicate, if_pos (by omega)]
theorem Pv.ext {p q : Nat → Int} {cs ds : Array Value} (h : Pv p cs) (h' : Pv q ds) (he : ∀ i, i < 122 → p i = q i) : cs = ds :=
  arr_ext h.size h'.size fun j hj => by rw [h.get j hj, h'.get j hj, he j hj]
end Go.Proofs.Ytnafnhpajkhgkaa
/- How the laws' arguments read: structs and arrays of numbers and bools, flat, cell by cell; slices of such. No condition. -/
namespace Go.Proofs.Ytnafnhpajkhgkaa
set_option linter.unusedVariables false
set_option linter.unusedSimpArgs false
open Go.RowKit Mem

/-- A cell's kind: a number's, or (none) a bool. -/
def IsCell (k : Option IntKind) (v : Value) : Prop := match k with
  | some k => ∃ n, v = .int k n ∧ (Lit.int k n).wf = true
  | none => ∃ b, v = .bool b
def flatFields (P : Program) (F : TypeId → Option (List (Option IntKind))) : List Field → Nat → Option (List (Option IntKind))
  | [], _ => some []
  | f :: fs, off => if f.offset = off then (F f.type).bind fun ks => if ks.length = P.cellsOf f.type then (flatFields P F fs (off + ks.length)).map (ks ++ ·) else none else none
def flatK (P : Program) : Nat → TypeId → Option (List (Option IntKind))
  | 0, _ => none
  | n + 1, t => match P.underlying t with
    | some (.int k) => some [some k]
    | some .bool => some [none]
    | some (.struct fs) => (flatFields P (flatK P n) fs.toList 0).bind fun ks => if ks.length = P.cellsOf t then some ks else none
    | some (.array m e) => (flatK P n e).bind fun ks => if ks.length = P.cellsOf e ∧ m * ks.length = P.cellsOf t then some (List.replicate m ks).flatten else none
    | _ => none

section
variable {H : Type} {enc : TypeId × Value → H} {P : Program} {w : World} {base : Nat} {spare : Nat → Bool} {held : Bool}
theorem flat_fields_reads {F : TypeId → Option (List (Option IntKind))} {n : Nat} {cs : List Value} (hF : ∀ (t : TypeId) (ks : List (Option IntKind)) (c : List Value) (y : DataW H × List MemPlace), F t = some ks → DataW.trod enc P w base spare held n t c = some y → c.length = P.cellsOf t → ∀ (i : Nat) (k : Option IntKind), ks[i]? = some k → ∃ v, c[i]? = some v ∧ IsCell k v) :
    ∀ (fs : List Field) (off : Nat) (ks : List (Option IntKind)), flatFields P F fs off = some ks → off + ks.length ≤ cs.length → (∀ f ∈ fs, ∃ y, DataW.trod enc P w base spare held n f.type ((cs.drop f.offset).take (P.cellsOf f.type)) = some y) →
      ∀ (i : Nat) (k : Option IntKind), ks[i]? = some k → ∃ v, cs[off + i]? = some v ∧ IsCell k v
  | [], off, ks, h, _, _, i, k, hk => by
    simp [flatFields] at h; subst h; simp at hk
  | f :: fs, off, ks, h, hl, hr, i, k, hk => by
    simp only [flatFields] at h
    split at h
    · rename_i ho
      obtain ⟨k1, h1, h2⟩ := Option.bind_eq_some_iff.1 h
      split at h2
      · rename_i hlen
        obtain ⟨k2, h3, rfl⟩ := Option.map_eq_some_iff.1 h2
        rw [List.length_append] at hl
        by_cases hi : i < k1.length
        · rw [List.getElem?_append_left hi] at hk
          obtain ⟨y, hy⟩ := hr f (by simp)
          rw [ho] at hy
          obtain ⟨v, hv, hc⟩ := hF f.type k1 _ y h1 hy (by simp; omega) i k hk
          rw [List.getElem?_take, if_pos (by omega), List.getElem?_drop] at hv
          exact ⟨v, hv, hc⟩
        · rw [List.getElem?_append_right (by omega)] at hk
          obtain ⟨v, hv, hc⟩ := flat_fields_reads hF fs (off + k1.length) k2 h3 (by omega) (fun g hg => hr g (List.mem_cons_of_mem _ hg)) (i - k1.length) k hk
          exact ⟨v, by rw [show off + i = off + k1.length + (i - k1.length) by omega]; exact hv, hc⟩
      · cases h2
    · cases h
theorem flat_flatten {m : Nat} {ks : List (Option IntKind)} {i : Nat} {k : Option IntKind} (h : (List.replicate m ks).flatten[i]? = some k) : ∃ j r, j < m ∧ r < ks.length ∧ i = j * ks.length + r ∧ ks[r]? = some k := by
  induction m generalizing i with
  | zero => simp at h
  | succ m ih =>
    rw [List.replicate_succ, List.flatten_cons] at h
    by_cases hi : i < ks.length
    · rw [List.getElem?_append_left hi] at h
      exact ⟨0, i, by omega, hi, by omega, h⟩
    · rw [List.getElem?_append_right (by omega)] at h
      obtain ⟨j, r, h1, h2, h3, h4⟩ := ih h
      exact ⟨j + 1, r, by omega, h2, by rw [Nat.succ_mul]; omega, h4⟩
/-- A reading of such a type: each cell is what its kind says. -/
theorem flat_reads : ∀ (n m : Nat) (t : TypeId) (ks : List (Option IntKind)) (cs : List Value) (y : DataW H × List MemPlace), flatK P n t = some ks → DataW.trod enc P w base spare held m t cs = some y → cs.length = P.cellsOf t →
    ∀ (i : Nat) (k : Option IntKind), ks[i]? = some k → ∃ v, cs[i]? = some v ∧ IsCell k v
  | 0, _, _, _, _, _, h, _, _, _, _, _ => by simp [flatK] at h
  | n + 1, m, t, ks, cs, y, h, hy, hl, i, k, hk => by
    unfold flatK at h
    split at h
    · rename_i kk hu
      simp at h; subst h
      obtain ⟨x, rfl, _, hw⟩ := DataW.trod_int hu hy
      match i with
      | 0 => simp at hk; subst hk; exact ⟨_, rfl, x, rfl, hw⟩
      | i + 1 => simp at hk
    · rename_i hu
      simp at h; subst h
      obtain ⟨b, rfl, _⟩ := DataW.trod_bool hu hy
      match i with
      | 0 => simp at hk; subst hk; exact ⟨_, rfl, b, rfl⟩
      | i + 1 => simp at hk
    · rename_i fs hu
      obtain ⟨k1, h1, h2⟩ := Option.bind_eq_some_iff.1 h
      split at h2
      · rename_i hlen
        simp at h2; subst h2
        obtain ⟨xs, m', rfl, _, hcl, hxl, hf⟩ := DataW.trod_struct hu hy
        have := flat_fields_reads (P := P) (w := w) (base := base) (spare := spare) (held := held) (enc := enc) (n := m') (cs := cs) (F := flatK P n) (fun t ks c y h1 h2 h3 => flat_reads n m' t ks c y h1 h2 h3) fs.toList 0 k1 h1 (by omega) (fun f hfm => by
          obtain ⟨j, hj, rfl⟩ := List.mem_iff_getElem.1 hfm
          have hj' : j < fs.size := by simpa using hj
          have := hf j fs[j] (Array.getElem?_eq_getElem hj')
          rw [List.getElem?_eq_getElem (by omega)] at this
          exact ⟨_, by simpa using this⟩) i k hk
        simpa using this
      · cases h2
    · rename_i mm e hu
      obtain ⟨k1, h1, h2⟩ := Option.bind_eq_some_iff.1 h
      split at h2
      · rename_i hlen
        simp at h2; subst h2
        obtain ⟨xs, m', rfl, _, hcl, hxl, hf⟩ := DataW.trod_array hu hy
        obtain ⟨j, r, hj, hr, rfl, hkr⟩ := flat_flatten hk
        have hx := hf j hj
        rw [List.getElem?_eq_getElem (by omega)] at hx
        have hbound : j * k1.length + k1.length ≤ cs.length := by
          rw [hcl, ← hlen.2, ← Nat.succ_mul]
          exact Nat.mul_le_mul_right _ hj
        obtain ⟨v, hv, hc⟩ := flat_reads n m' e k1 _ _ h1 hx (by rw [List.length_take, List.length_drop, ← hlen.1]; omega) r k hkr
        rw [List.getElem?_take, if_pos (by omega), List.getElem?_drop, ← hlen.1] at hv
        exact ⟨v, hv, hc⟩
      · cases h2
    · cases h

/-- A struct or array by value. -/
theorem open_flat {r : Reach} {b0 : Nat} {t : TypeId} {n : Nat} {ks : List (Option IntKind)} {v : Value} {d : DataW H} {p : List MemPlace} (hk : flatK P n t = some ks) (hs : aggT P t = true) (hl : ks.length = P.cellsOf t)
    (hv : Value.okWide P w r b0 t v) (h : DataW.Trod enc P w base spare held t v d p) : ∃ cs, v = .agg cs ∧ cs.size = ks.length ∧ ∀ (i : Nat) (k : Option IntKind), ks[i]? = some k → ∃ u, cs[i]? = some u ∧ IsCell k u := by
  obtain ⟨cs, rfl, hsz⟩ : ∃ cs, v = .agg cs ∧ cs.size = P.cellsOf t := by
    unfold aggT at hs
    cases hu : P.underlying t with
    | none => simp [hu] at hs
    | some d =>
      cases d <;> simp [hu] at hs
      · simp only [Value.okWide, hu] at hv
        obtain ⟨cs, h1, h2, _⟩ := hv
        exact ⟨cs, h1, h2⟩
      · simp only [Value.okWide, hu] at hv
        obtain ⟨cs, h1, h2, _⟩ := hv
        exact ⟨cs, h1, h2⟩
  obtain ⟨fuel, hf⟩ := h
  refine ⟨cs, rfl, by omega, fun i k hi => ?_⟩
  have := flat_reads n fuel t ks cs.toList (d, p) hk hf (by simpa using hsz) i k hi
  simpa using this

/-- A slice that reads: xs are the elements' cells. -/
def Sl (w : World) (sz : Nat) (v : Value) (xs : List (List Value)) : Prop :=
  ∃ A cap, v = .slice A xs.length cap ∧ xs.length ≤ cap ∧ cap ≤ maxLen ∧ ∀ (i : Nat) (c : List Value), xs[i]? = some c → c.length = sz ∧ ∃ b off, A = some ⟨b, off, none⟩ ∧ ∀ (j : Nat) (u : Value), c[j]? = some u → w.cell? ⟨b, off + i * sz + j, none⟩ = some u
theorem Sl.below {w w' : World} {sz : Nat} {v : Value} {xs : List (List Value)} (h : Sl w sz v xs) (hb : Below w.heap.size w w') : Sl w' sz v xs := by
  obtain ⟨A, cap, hv, h1, h2, h3⟩ := h
  refine ⟨A, cap, hv, h1, h2, fun i c hc => ?_⟩
  obtain ⟨hl, b, off, hA, hcell⟩ := h3 i c hc
  refine ⟨hl, b, off, hA, fun j u hu => ?_⟩
  have := hcell j u hu
  rw [hb.cell (p := ⟨b, off + i * sz + j, none⟩) (World.block_lt_of_cell? w _ this)]
  exact this

theorem open_flat_slice {r : Reach} {b0 : Nat} {t e : TypeId} {n : Nat} {ks : List (Option IntKind)} {v : Value} {d : DataW H} {p : List MemPlace} (ht : P.underlying t = some (.slice e)) (hk : flatK P n e = some ks) (hl : ks.length = P.cellsOf e) (h0 : 0 < ks.length)
    (hv : Value.okWide P w r b0 t v) (h : DataW.Trod enc P w base spare held t v d p) : ∃ xs, Sl w ks.length v xs ∧ ∀ c ∈ xs, ∀ (i : Nat) (k : Option IntKind), ks[i]? = some k → ∃ u, c[i]? = some u ∧ IsCell k u := by
  obtain ⟨a0, len, cap, rfl⟩ := WideShapes.okWide_slice ht hv
  obtain ⟨fuel, hf⟩ := h
  rcases Deep.open_slice ht hf with ⟨hcs, _⟩ | ⟨a, len', cap', m, n', D, Pl, hcs, _, hle, hm, hmm, _, hx⟩
  · simp [Value.cells] at hcs
    obtain ⟨rfl, rfl, rfl⟩ := hcs
    exact ⟨[], ⟨none, 0, rfl, by simp, by unfold maxLen; omega, by simp⟩, by simp⟩
  · simp [Value.cells] at hcs
    obtain ⟨rfl, rfl, rfl⟩ := hcs
    have hlm : len ≤ m := by rw [hmm]; split <;> omega
    have hcell : ∀ i, i < len → ∃ cs', w.cells? base (a.add (i * P.cellsOf e)) (P.cellsOf e) = some cs' ∧ (∀ (j : Nat) (k : Option IntKind), ks[j]? = some k → ∃ u, cs'[j]? = some u ∧ IsCell k u) := by
      intro i hi
      obtain ⟨cs', h1, h2⟩ := hx i (by omega)
      refine ⟨cs', h1, fun j k hj => flat_reads n n' e ks cs' _ hk h2 (World.cells?_some h1).2.1 j k hj⟩
    let f : Nat → List Value := fun i => if hi : i < len then Classical.choose (hcell i hi) else []
    have hf' : ∀ i (hi : i < len), w.cells? base (a.add (i * P.cellsOf e)) (P.cellsOf e) = some (f i) ∧ (∀ (j : Nat) (k : Option IntKind), ks[j]? = some k → ∃ u, (f i)[j]? = some u ∧ IsCell k u) := by
      intro i hi
      have := Classical.choose_spec (hcell i hi)
      simp only [f, dif_pos hi]
      exact this
    refine ⟨(List.range len).map f, ⟨some a, cap, by simp, by simpa using hle, hm, fun i c hc => ?_⟩, fun c hc i k hi => ?_⟩
    · obtain ⟨hi, rfl⟩ : i < len ∧ f i = c := by
        rw [List.getElem?_map] at hc
        by_cases hi : i < len
        · rw [List.getElem?_range hi] at hc; exact ⟨hi, by simpa using hc⟩
        · rw [List.getElem?_eq_none (by simpa using hi)] at hc; cases hc
      obtain ⟨h1, h2⟩ := hf' i hi
      obtain ⟨_, hlen, hce⟩ := World.cells?_some h1
      have hfl : (f i).length = ks.length := by omega
      refine ⟨hfl, a.block, a.off, ?_, fun j u hu => ?_⟩
      · have hspot : a.spot = none := by
          have hc0 := hce 0 (by omega)
          rw [List.getElem?_eq_getElem (by omega)] at hc0
          have := World.cell?_spot hc0
          by_cases hz : i * P.cellsOf e = 0
          · simpa [Addr.add, hz] using this
          · -- element 0 tells it
            obtain ⟨h1', _⟩ := hf' 0 (by omega)
            obtain ⟨_, hlen', hce'⟩ := World.cells?_some h1'
            have hc0' := hce' 0 (by omega)
            rw [List.getElem?_eq_getElem (by omega)] at hc0'
            have := World.cell?_spot hc0'
            simpa [Addr.add] using this
        cases a; simp at hspot; simp [hspot]
      · have hj : j < (f i).length := (List.getElem?_eq_some_iff.1 hu).1
        have := hce j (by omega)
        rw [hu] at this
        have hspot : a.spot = none := by
          obtain ⟨h1', _⟩ := hf' 0 (by omega)
          obtain ⟨_, hlen', hce'⟩ := World.cells?_some h1'
          have hc0' := hce' 0 (by omega)
          rw [List.getElem?_eq_getElem (by omega)] at hc0'
          have := World.cell?_spot hc0'
          simpa [Addr.add] using this
        have ha : a = ⟨a.block, a.off, none⟩ := by cases a; simp at hspot; simp [hspot]
        rw [ha, add_lit0, add_lit0, ← hl] at this
        exact this
    · obtain ⟨j, hj, rfl⟩ := List.mem_map.1 hc
      exact (hf' j (by simpa using hj)).2 i k hi
end

theorem wf_i8 {n : Int} (h : (Lit.int .i8 n).wf = true) : -128 ≤ n ∧ n ≤ 127 := by simpa [Lit.wf, IntKind.min, IntKind.max, IntKind.signed, IntKind.bits] using h
theorem wf_i16 {n : Int} (h : (Lit.int .i16 n).wf = true) : -32768 ≤ n ∧ n ≤ 32767 := by simpa [Lit.wf, IntKind.min, IntKind.max, IntKind.signed, IntKind.bits] using h
theorem wf_u16 {n : Int} (h : (Lit.int .u16 n).wf = true) : 0 ≤ n ∧ n ≤ 65535 := by simpa [Lit.wf, IntKind.min, IntKind.max, IntKind.signed, IntKind.bits] using h
def pasK : List (Option IntKind) := List.replicate 2 (some .i8) ++ List.replicate 100 (some .i16) ++ List.replicate 20 (some .u16)
theorem pasK_get (i : Nat) (h : i < 122) : pasK[i]? = some (some (pk i)) := by
  simp only [pasK, pk, List.append_assoc]
  by_cases h1 : i < 2
  · rw [List.getElem?_append_left (by simpa using h1), if_pos h1, List.getElem?_replicate, if_pos h1]
  · rw [List.getElem?_append_right (by simp; omega), if_neg h1, List.length_replicate]
    by_cases h2 : i < 102
    · rw [List.getElem?_append_left (by simp; omega), if_pos h2, List.getElem?_replicate, if_pos (by omega)]
    · rw [List.getElem?_append_right (by simp; omega), if_neg h2, List.length_replicate, List.getElem?_replicate, if_pos (by omega)]
theorem pv_of_flat {cs : Array Value} (hs : cs.size = 122) (h : ∀ (i : Nat) (k : Option IntKind), pasK[i]? = some k → ∃ u, cs[i]? = some u ∧ IsCell k u) : ∃ p, Pv p cs := by
  have h' : ∀ i, i < 122 → cs[i]? = some (.int (pk i) (intOf (cs.getD i undef))) ∧ (Lit.int (pk i) (intOf (cs.getD i undef))).wf = true := by
    intro i hi
    obtain ⟨u, hu, n, rfl, hw⟩ := h i _ (pasK_get i hi)
    have : cs.getD i undef = .int (pk i) n := by simp [Array.getD_eq_getD_getElem?, hu]
    rw [this]
    exact ⟨hu, hw⟩
  refine ⟨fun i => intOf (cs.getD i undef), hs, fun i hi => (h' i hi).1, fun i hi => ?_, fun i h1 h2 => ?_, fun i h1 h2 => ?_⟩
  · have := (h' i (by omega)).2; unfold pk at this; rw [if_pos hi] at this; exact wf_i8 this
  · have := (h' i (by omega)).2; unfold pk at this; rw [if_neg (by omega), if_pos h2] at this; exact wf_i16 this
  · have := (h' i (by omega)).2; unfold pk at this; rw [if_neg (by omega), if_neg (by omega)] at this; exact wf_u16 this
/-! the cells of the small structs -/
structure Sp where
  x : Int
  y : Int
def Sp.cells (s : Sp) : List Value := [.int .i8 s.x, .int .i8 s.y]
def Sp.ok (s : Sp) : Prop := -128 ≤ s.x ∧ s.x ≤ 127 ∧ -128 ≤ s.y ∧ s.y ≤ 127
structure Sk where
  x : Int
  y : Int
  r : Int
def Sk.cells (s : Sk) : List Value := [.int .i8 s.x, .int .i8 s.y, .int .i16 s.r]
def Sk.ok (s : Sk) : Prop := -128 ≤ s.x ∧ s.x ≤ 127 ∧ -128 ≤ s.y ∧ s.y ≤ 127 ∧ -32768 ≤ s.r ∧ s.r ≤ 32767
structure Gt where
  x : Int
  y : Int
  u : Int
  v : Int
  rope : Int
  eats : Int
  likes : Int
def Gt.cells (g : Gt) : List Value := [.int .i8 g.x, .int .i8 g.y, .int .i8 g.u, .int .i8 g.v, .int .i16 g.rope, .int .i16 g.eats, .int .i8 g.likes]
def Gt.ok (g : Gt) : Prop := (-128 ≤ g.x ∧ g.x ≤ 127 ∧ -128 ≤ g.y ∧ g.y ≤ 127) ∧ (-128 ≤ g.u ∧ g.u ≤ 127 ∧ -128 ≤ g.v ∧ g.v ≤ 127) ∧ (-32768 ≤ g.rope ∧ g.rope ≤ 32767) ∧ (-32768 ≤ g.eats ∧ g.eats ≤ 32767) ∧ -128 ≤ g.likes ∧ g.likes ≤ 127
structure Hd where
  x : Int
  y : Int
  s : Bool
def Hd.cells (h : Hd) : List Value := [.int .i8 h.x, .int .i8 h.y, .bool h.s]
def Hd.ok (h : Hd) : Prop := -128 ≤ h.x ∧ h.x ≤ 127 ∧ -128 ≤ h.y ∧ h.y ≤ 127
def spK : List (Option IntKind) := [some .i8, some .i8]
theorem sp_of_flat {cs : List Value} (hs : cs.length = 2) (h : ∀ (i : Nat) (k : Option IntKind), spK[i]? = some k → ∃ u, cs[i]? = some u ∧ IsCell k u) : ∃ s : Sp, cs = s.cells ∧ s.ok := by
  obtain ⟨_, h0, x, rfl, w0⟩ := h 0 _ rfl
  obtain ⟨_, h1, y, rfl, w1⟩ := h 1 _ rfl
  refine ⟨⟨x, y⟩, ?_, (wf_i8 w0).1, (wf_i8 w0).2, (wf_i8 w1).1, (wf_i8 w1).2⟩
  match cs, hs with
  | [a, b], _ => simp at h0 h1; simp [Sp.cells, h0, h1]
theorem list_of_cells {α : Type} {f : α → List Value} {p : α → Prop} (xs : List (List Value)) (h : ∀ c ∈ xs, ∃ s, c = f s ∧ p s) : ∃ l : List α, xs = l.map f ∧ ∀ s ∈ l, p s := by
  induction xs with
  | nil => exact ⟨[], rfl, by simp⟩
  | cons c xs ih =>
    obtain ⟨s, hs, hp⟩ := h c (by simp)
    obtain ⟨l, hl, hq⟩ := ih fun d hd => h d (List.mem_cons_of_mem _ hd)
    exact ⟨s :: l, by simp [hs, hl], fun t ht => by rcases List.mem_cons.1 ht with rfl | ht; exact hp; exact hq t ht⟩
theorem sl_elem {w : World} {sz : Nat} {v : Value} {xs : List (List Value)} (h : Sl w sz v xs) (c : List Value) (hc : c ∈ xs) : c.length = sz ∧ True := by
  obtain ⟨A, cap, _, _, _, h3⟩ := h
  obtain ⟨i, hi⟩ := List.mem_iff_getElem?.1 hc
  exact ⟨(h3 i c hi).1, trivial⟩
end Go.Proofs.Ytnafnhpajkhgkaa
