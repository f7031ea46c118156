import Derived.Test.YtpifngdmlmfnhaaProg
import Derived.BigQuiet
import Derived.Deep.LoopGhost
import Derived.Deep.QuietTactic
import Derived.KernelRfl
import Derived.Lib.Hide
import Derived.WalkKit
import Derived.Below
import Derived.ChangeOld
import Derived.Deep.Slices
import Derived.OpenShut
import Derived.ProofKit
import Derived.Test.YtpifngdmlmfnhaaQE01
import Derived.Test.YtpifngdmlmfnhaaQE02
/- The seat's tables: fields, arrays, slices, sizes, kinds of its types. No condition. -/
namespace Go.Proofs.Ytpifngdmlmfnhaa
open Go Wk
def tF : List (Nat × Nat × Nat) := [(13, 0, 0), (13, 1, 1), (28, 0, 0), (28, 1, 1), (28, 2, 2), (28, 3, 102), (28, 4, 112), (29, 0, 0), (29, 1, 1), (29, 2, 2), (29, 3, 102), (29, 4, 112), (34, 0, 0), (34, 1, 1), (34, 2, 2), (34, 3, 102), (34, 4, 112), (87, 0, 0), (87, 1, 1), (88, 0, 0), (88, 1, 1), (96, 0, 0), (96, 1, 1), (97, 0, 0), (97, 1, 2), (97, 2, 4), (97, 3, 5), (97, 4, 6), (98, 0, 0), (98, 1, 2), (98, 2, 4), (98, 3, 5), (98, 4, 6), (101, 0, 0), (101, 1, 2), (101, 2, 4), (101, 3, 5), (101, 4, 6), (102, 0, 0), (102, 1, 2), (102, 2, 4), (102, 3, 5), (102, 4, 6), (131, 0, 0), (131, 1, 2), (132, 0, 0), (132, 1, 2), (138, 0, 0), (138, 1, 2), (139, 0, 0), (139, 1, 2), (174, 0, 0), (174, 1, 2), (175, 0, 0), (175, 1, 2), (177, 0, 0), (177, 1, 2), (178, 0, 0), (178, 1, 2), (262, 0, 0), (262, 1, 1), (262, 2, 2), (263, 0, 0), (263, 1, 1), (263, 2, 2)]
def tA : List (Nat × Nat × Nat) := [(24, 10, 1), (25, 10, 10), (27, 10, 1), (127, 10, 1), (128, 10, 10), (152, 2, 1), (157, 10, 1), (158, 10, 10), (182, 10, 10)]
def tL : List (Nat × Nat × Nat) := [(30, 139, 3), (36, 132, 3), (40, 88, 2), (47, 152, 2), (52, 98, 7), (55, 102, 7), (60, 96, 2), (66, 178, 3), (69, 175, 3), (73, 60, 1), (76, 40, 1), (84, 5, 1), (108, 2, 1), (278, 4, 1)]
def tS : List (Nat × Bool × Nat) := [(1, false, 1), (2, false, 1), (3, false, 1), (4, false, 1), (5, false, 1), (9, false, 1), (12, false, 1), (13, true, 2), (20, false, 1), (21, false, 1), (22, false, 1), (23, false, 1), (24, true, 10), (25, true, 100), (26, false, 1), (27, true, 10), (28, true, 122), (29, true, 122), (30, false, 1), (31, false, 1), (33, false, 1), (34, true, 122), (35, false, 1), (36, false, 1), (37, false, 1), (38, false, 1), (39, false, 1), (40, false, 1), (42, false, 1), (43, false, 1), (44, false, 1), (45, false, 1), (46, false, 1), (47, false, 1), (49, false, 1), (50, false, 1), (51, false, 1), (52, false, 1), (53, false, 1), (54, false, 1), (55, false, 1), (56, false, 1), (57, false, 1), (58, false, 1), (59, false, 1), (60, false, 1), (61, false, 1), (63, false, 1), (64, false, 1), (65, false, 1), (66, false, 1), (67, false, 1), (68, false, 1), (69, false, 1), (70, false, 1), (71, false, 1), (72, false, 1), (73, false, 1), (74, false, 1), (75, false, 1), (76, false, 1), (77, false, 1), (78, false, 1), (79, false, 1), (81, false, 1), (82, false, 1), (83, false, 1), (84, false, 1), (85, false, 1), (86, false, 1), (87, true, 2), (88, true, 2), (89, false, 1), (90, false, 1), (91, false, 1), (92, false, 1), (93, false, 1), (94, false, 1), (95, false, 1), (96, true, 2), (97, true, 7), (98, true, 7), (100, false, 1), (101, true, 7), (102, true, 7), (103, false, 1), (104, false, 1), (105, false, 1), (106, false, 1), (107, false, 1), (108, false, 1), (110, false, 1), (111, false, 1), (113, false, 1), (114, false, 1), (115, false, 1), (116, false, 1), (117, false, 1), (118, false, 1), (120, false, 1), (121, false, 1), (123, false, 1), (124, false, 1), (125, false, 1), (126, false, 1), (127, true, 10), (128, true, 100), (129, false, 1), (130, false, 1), (131, true, 3), (132, true, 3), (133, false, 1), (134, false, 1), (135, false, 1), (136, false, 1), (137, false, 1), (138, true, 3), (139, true, 3), (140, false, 1), (141, false, 1), (142, false, 1), (143, false, 1), (144, false, 1), (145, false, 1), (146, false, 1), (147, false, 1), (148, false, 1), (149, false, 1), (150, false, 1), (151, false, 1), (152, true, 2), (153, false, 1), (154, false, 1), (155, false, 1), (156, false, 1), (157, true, 10), (158, true, 100), (159, false, 1), (160, false, 1), (161, false, 1), (162, false, 1), (163, false, 1), (164, false, 1), (165, false, 1), (166, false, 1), (167, false, 1), (168, false, 1), (169, false, 1), (170, false, 1), (171, false, 1), (173, false, 1), (174, true, 3), (175, true, 3), (176, false, 1), (177, true, 3), (178, true, 3), (179, false, 1), (180, false, 1), (181, false, 1), (182, true, 100), (183, false, 1), (184, false, 1), (185, false, 1), (186, false, 1), (187, false, 1), (188, false, 1), (189, false, 1), (190, false, 1), (191, false, 1), (192, false, 1), (193, false, 1), (194, false, 1), (195, false, 1), (196, false, 1), (197, false, 1), (198, false, 1), (199, false, 1), (200, false, 1), (201, false, 1), (202, false, 1), (203, false, 1), (204, false, 1), (205, false, 1), (206, false, 1), (207, false, 1), (208, false, 1), (210, false, 1), (211, false, 1), (212, false, 1), (213, false, 1), (214, false, 1), (215, false, 1), (216, false, 1), (218, false, 1), (220, false, 1), (221, false, 1), (222, false, 1), (223, false, 1), (224, false, 1), (225, false, 1), (226, false, 1), (227, false, 1), (228, false, 1), (229, false, 1), (230, false, 1), (231, false, 1), (232, false, 1), (233, false, 1), (234, false, 1), (235, false, 1), (236, false, 1), (237, false, 1), (238, false, 1), (239, false, 1), (240, false, 1), (241, false, 1), (242, false, 1), (243, false, 1), (244, false, 1), (245, false, 1), (246, false, 1), (247, false, 1), (248, false, 1), (249, false, 1), (250, false, 1), (251, false, 1), (252, false, 1), (253, false, 1), (254, false, 1), (255, false, 1), (256, false, 1), (257, false, 1), (258, false, 1), (259, false, 1), (260, false, 1), (261, false, 1), (262, true, 3), (263, true, 3), (264, false, 1), (265, false, 1), (266, false, 1), (267, false, 1), (268, false, 1), (269, false, 1), (270, false, 1), (271, false, 1), (272, false, 1), (273, false, 1), (274, false, 1), (275, false, 1), (276, false, 1), (277, false, 1), (278, false, 1), (279, false, 1), (285, false, 1), (286, false, 1), (289, false, 1), (290, false, 1)]
def tK : List (Nat × IntKind) := [(2, .i64), (3, .i64), (5, .u8), (12, .u64), (21, .i32), (22, .i8), (23, .i16), (26, .u16), (254, .u64), (261, .u64), (286, .u32)]
theorem tF_ok : tF.all (chkF Try.prog) = true := by kernel_rfl
theorem tA_ok : tA.all (chkA Try.prog) = true := by kernel_rfl
theorem tL_ok : tL.all (chkL Try.prog) = true := by kernel_rfl
theorem tS_ok : tS.all (chkS Try.prog) = true := by kernel_rfl
theorem tK_ok : tK.all (chkK Try.prog) = true := by kernel_rfl
def tb : Tb Try.prog := ⟨tF, tA, tL, tS, tK, tF_ok, tA_ok, tL_ok, tS_ok, tK_ok⟩
end Go.Proofs.Ytpifngdmlmfnhaa
/- Plain words: arrays of numbers, spots, pastures as cells. No condition. -/
namespace Go.Proofs.Ytpifngdmlmfnhaa
set_option linter.unusedVariables false
set_option linter.unusedSimpArgs false
open Go.RowKit Mem

theorem min2_int (k k' : IntKind) (x y : Int) : Builtin.min2 (.int k x) (.int k' y) = pure (.int k (min x y)) := by
  simp only [Builtin.min2]; congr 2; omega
theorem min_two (ats : Array TypeId) (ty : TypeId) (a b : Value) : Builtin.min_ ats ty #[a, b] = (Builtin.min2 a b >>= fun s => pure s) := by simp only [Builtin.min_, List.foldlM_cons, List.foldlM_nil]
/-- n cells, each a number of this kind -/
def IntsOf (k : IntKind) (n : Nat) (cs : Array Value) : Prop := cs.size = n ∧ ∀ j, j < n → ∃ x, cs[j]? = some (.int k x)
theorem IntsOf.one {k : IntKind} {n : Nat} {cs : Array Value} (h : IntsOf k n cs) : ∀ v ∈ cs.toList, v.oneCell' = true := by
  intro v hv
  obtain ⟨j, hj, rfl⟩ := List.mem_iff_getElem.1 hv
  obtain ⟨x, hx⟩ := h.2 j (by simpa [h.1] using hj)
  have : cs.toList[j] = .int k x := by
    have h2 : cs.toList[j]? = some (.int k x) := by simpa using hx
    exact (List.getElem?_eq_some_iff.1 h2).2
  rw [this]; rfl
theorem IntsOf.part {k : IntKind} {n : Nat} {cs : Array Value} (h : IntsOf k n cs) (off m : Nat) (hm : off + m ≤ n) : IntsOf k m (cs.extract off (off + m)) := by
  refine ⟨by have := h.1; simp; omega, fun j hj => ?_⟩
  obtain ⟨x, hx⟩ := h.2 (off + j) (by omega)
  refine ⟨x, ?_⟩
  rw [Array.getElem?_extract, if_pos (by have := h.1; omega)]
  exact hx
theorem arr_ext {n : Nat} {a b : Array Value} (ha : a.size = n) (hb : b.size = n) (h : ∀ j, j < n → a[j]? = b[j]?) : a = b := by
  apply Array.ext_getElem?
  intro j
  by_cases hj : j < n
  · exact h j hj
  · rw [Array.getElem?_eq_none (by omega), Array.getElem?_eq_none (by omega)]
/-- the kind of a pasture's cell -/
def pk (i : Nat) : IntKind := if i < 2 then .i8 else if i < 102 then .i16 else .u16
/-- a pasture's cells: Wide, High, 100 of grass, 10 of east, 10 of south -/
structure Pv (p : Nat → Int) (cs : Array Value) : Prop where
  size : cs.size = 122
  get : ∀ i, i < 122 → cs[i]? = some (.int (pk i) (p i))
  i8 : ∀ i, i < 2 → -128 ≤ p i ∧ p i ≤ 127
  i16 : ∀ i, 2 ≤ i → i < 102 → -32768 ≤ p i ∧ p i ≤ 32767
  u16 : ∀ i, 102 ≤ i → i < 122 → 0 ≤ p i ∧ p i ≤ 65535
theorem Pv.one {p : Nat → Int} {cs : Array Value} (h : Pv p cs) : ∀ v ∈ cs.toList, v.oneCell' = true := by
  intro v hv
  obtain ⟨j, hj, rfl⟩ := List.mem_iff_getElem.1 hv
  have hj' : j < 122 := by simpa [h.size] using hj
  have h2 : cs.toList[j]? = some (.int (pk j) (p j)) := by simpa using h.get j hj'
  rw [(List.getElem?_eq_some_iff.1 h2).2]; rfl
theorem Pv.g0 {p : Nat → Int} {cs : Array Value} (h : Pv p cs) : cs[0]? = some (.int .i8 (p 0)) := h.get 0 (by omega)
theorem Pv.g1 {p : Nat → Int} {cs : Array Value} (h : Pv p cs) : cs[1]? = some (.int .i8 (p 1)) := h.get 1 (by omega)
theorem Pv.grass {p : Nat → Int} {cs : Array Value} (h : Pv p cs) (i : Nat) (h1 : 2 ≤ i) (h2 : i < 102) : cs[i]? = some (.int .i16 (p i)) := by
  have := h.get i (by omega)
  unfold pk at this
  rwa [if_neg (by omega), if_pos h2] at this
theorem Pv.side {p : Nat → Int} {cs : Array Value} (h : Pv p cs) (i : Nat) (h1 : 102 ≤ i) (h2 : i < 122) : cs[i]? = some (.int .u16 (p i)) := by
  have := h.get i h2
  unfold pk at this
  rwa [if_neg (by omega), if_neg (by omega)] at this
/-- the cells of the zero pasture -/
def zP : Array Value := ((List.replicate 2 (Value.int .i8 0)) ++ List.replicate 100 (Value.int .i16 0) ++ List.replicate 20 (Value.int .u16 0)).toArray
theorem zP_pv : Pv (fun _ => 0) zP := by
  refine ⟨rfl, fun i hi => ?_, fun _ _ => by omega, fun _ _ _ => by omega, fun _ _ _ => by omega⟩
  simp only [zP, pk, List.getElem?_toArray, List.append_assoc]
  by_cases h1 : i < 2
  · rw [List.getElem?_append_left (by simpa using h1), if_pos h1, List.getElem?_replicate, if_pos h1]
  · rw [List.getElem?_append_right (by simp; omega), if_neg h1, List.length_replicate]
    by_cases h2 : i < 102
    · rw [List.getElem?_append_left (by simp; omega), if_pos h2, List.getElem?_replicate, if_pos (by omega)]
    · rw [List.getElem?_append_right (by simp; omega), if_neg h2, List.length_replicate, List.getElem?_replicate, if_pos (by omega)]
theorem Pv.ext {p q : Nat → Int} {cs ds : Array Value} (h : Pv p cs) (h' : Pv q ds) (he : ∀ i, i < 122 → p i = q i) : cs = ds :=
  arr_ext h.size h'.size fun j hj => by rw [h.get j hj, h'.get j hj, he j hj]
end Go.Proofs.Ytpifngdmlmfnhaa
/- How the laws' arguments read: structs and arrays of numbers and bools, flat, cell by cell; slices of such. No condition. -/
namespace Go.Proofs.Ytpifngdmlmfnhaa
set_option linter.unusedVariables false
set_option linter.unusedSimpArgs false
open Go.RowKit Mem

/-- A cell's kind: a number's, or (none) a bool. -/
def IsCell (k : Option IntKind) (v : Value) : Prop := match k with
  | some k => ∃ n, v = .int k n ∧ (Lit.int k n).wf = true
  | none => ∃ b, v = .bool b
def flatFields (P : Program) (F : TypeId → Option (List (Option IntKind))) : List Field → Nat → Option (List (Option IntKind))
  | [], _ => some []
  | f :: fs, off => if f.offset = off then (F f.type).bind fun ks => if ks.length = P.cellsOf f.type then (flatFields P F fs (off + ks.length)).map (ks ++ ·) else none else none
def flatK (P : Program) : Nat → TypeId → Option (List (Option IntKind))
  | 0, _ => none
  | n + 1, t => match P.underlying t with
    | some (.int k) => some [some k]
    | some .bool => some [none]
    | some (.struct fs) => (flatFields P (flatK P n) fs.toList 0).bind fun ks => if ks.length = P.cellsOf t then some ks else none
    | some (.array m e) => (flatK P n e).bind fun ks => if ks.length = P.cellsOf e ∧ m * ks.length = P.cellsOf t then some (List.replicate m ks).flatten else none
    | _ => none

section
variable {H : Type} {enc : TypeId × Value → H} {P : Program} {w : World} {base : Nat} {spare : Nat → Bool} {held : Bool}
theorem flat_fields_reads {F : TypeId → Option (List (Option IntKind))} {n : Nat} {cs : List Value} (hF : ∀ (t : TypeId) (ks : List (Option IntKind)) (c : List Value) (y : DataW H × List MemPlace), F t = some ks → DataW.trod enc P w base spare held n t c = some y → c.length = P.cellsOf t → ∀ (i : Nat) (k : Option IntKind), ks[i]? = some k → ∃ v, c[i]? = some v ∧ IsCell k v) :
    ∀ (fs : List Field) (off : Nat) (ks : List (Option IntKind)), flatFields P F fs off = some ks → off + ks.length ≤ cs.length → (∀ f ∈ fs, ∃ y, DataW.trod enc P w base spare held n f.type ((cs.drop f.offset).take (P.cellsOf f.type)) = some y) →
      ∀ (i : Nat) (k : Option IntKind), ks[i]? = some k → ∃ v, cs[off + i]? = some v ∧ IsCell k v
  | [], off, ks, h, _, _, i, k, hk => by
    simp [flatFields] at h; subst h; simp at hk
  | f :: fs, off, ks, h, hl, hr, i, k, hk => by
    simp only [flatFields] at h
    split at h
    · rename_i ho
      obtain ⟨k1, h1, h2⟩ := Option.bind_eq_some_iff.1 h
      split at h2
      · rename_i hlen
        obtain ⟨k2, h3, rfl⟩ := Option.map_eq_some_iff.1 h2
        rw [List.length_append] at hl
        by_cases hi : i < k1.length
        · rw [List.getElem?_append_left hi] at hk
          obtain ⟨y, hy⟩ := hr f (by simp)
          rw [ho] at hy
          obtain ⟨v, hv, hc⟩ := hF f.type k1 _ y h1 hy (by simp; omega) i k hk
          rw [List.getElem?_take, if_pos (by omega), List.getElem?_drop] at hv
          exact ⟨v, hv, hc⟩
        · rw [List.getElem?_append_right (by omega)] at hk
          obtain ⟨v, hv, hc⟩ := flat_fields_reads hF fs (off + k1.length) k2 h3 (by omega) (fun g hg => hr g (List.mem_cons_of_mem _ hg)) (i - k1.length) k hk
          exact ⟨v, by rw [show off + i = off + k1.length + (i - k1.length) by omega]; exact hv, hc⟩
      · cases h2
    · cases h
theorem flat_flatten {m : Nat} {ks : List (Option IntKind)} {i : Nat} {k : Option IntKind} (h : (List.replicate m ks).flatten[i]? = some k) : ∃ j r, j < m ∧ r < ks.length ∧ i = j * ks.length + r ∧ ks[r]? = some k := by
  induction m generalizing i with
  | zero => simp at h
  | succ m ih =>
    rw [List.replicate_succ, List.flatten_cons] at h
    by_cases hi : i < ks.length
    · rw [List.getElem?_append_left hi] at h
      exact ⟨0, i, by omega, hi, by omega, h⟩
    · rw [List.getElem?_append_right (by omega)] at h
      obtain ⟨j, r, h1, h2, h3, h4⟩ := ih h
      exact ⟨j + 1, r, by omega, h2, by rw [Nat.succ_mul]; omega, h4⟩
/-- A reading of such a type: each cell is what its kind says. -/
theorem flat_reads : ∀ (n m : Nat) (t : TypeId) (ks : List (Option IntKind)) (cs : List Value) (y : DataW H × List MemPlace), flatK P n t = some ks → DataW.trod enc P w base spare held m t cs = some y → cs.length = P.cellsOf t →
    ∀ (i : Nat) (k : Option IntKind), ks[i]? = some k → ∃ v, cs[i]? = some v ∧ IsCell k v
  | 0, _, _, _, _, _, h, _, _, _, _, _ => by simp [flatK] at h
  | n + 1, m, t, ks, cs, y, h, hy, hl, i, k, hk => by
    unfold flatK at h
    split at h
    · rename_i kk hu
      simp at h; subst h
      obtain ⟨x, rfl, _, hw⟩ := DataW.trod_int hu hy
      match i with
      | 0 => simp at hk; subst hk; exact ⟨_, rfl, x, rfl, hw⟩
      | i + 1 => simp at hk
    · rename_i hu
      simp at h; subst h
      obtain ⟨b, rfl, _⟩ := DataW.trod_bool hu hy
      match i with
      | 0 => simp at hk; subst hk; exact ⟨_, rfl, b, rfl⟩
      | i + 1 => simp at hk
    · rename_i fs hu
      obtain ⟨k1, h1, h2⟩ := Option.bind_eq_some_iff.1 h
      split at h2
      · rename_i hlen
        simp at h2; subst h2
        obtain ⟨xs, m', rfl, _, hcl, hxl, hf⟩ := DataW.trod_struct hu hy
        have := flat_fields_reads (P := P) (w := w) (base := base) (spare := spare) (held := held) (enc := enc) (n := m') (cs := cs) (F := flatK P n) (fun t ks c y h1 h2 h3 => flat_reads n m' t ks c y h1 h2 h3) fs.toList 0 k1 h1 (by omega) (fun f hfm => by
          obtain ⟨j, hj, rfl⟩ := List.mem_iff_getElem.1 hfm
          have hj' : j < fs.size := by simpa using hj
          have := hf j fs[j] (Array.getElem?_eq_getElem hj')
          rw [List.getElem?_eq_getElem (by omega)] at this
          exact ⟨_, by simpa using this⟩) i k hk
        simpa using this
      · cases h2
    · rename_i mm e hu
      obtain ⟨k1, h1, h2⟩ := Option.bind_eq_some_iff.1 h
      split at h2
      · rename_i hlen
        simp at h2; subst h2
        obtain ⟨xs, m', rfl, _, hcl, hxl, hf⟩ := DataW.trod_array hu hy
        obtain ⟨j, r, hj, hr, rfl, hkr⟩ := flat_flatten hk
        have hx := hf j hj
        rw [List.getElem?_eq_getElem (by omega)] at hx
        have hbound : j * k1.length + k1.length ≤ cs.length := by
          rw [hcl, ← hlen.2, ← Nat.succ_mul]
          exact Nat.mul_le_mul_right _ hj
        obtain ⟨v, hv, hc⟩ := flat_reads n m' e k1 _ _ h1 hx (by rw [List.length_take, List.length_drop, ← hlen.1]; omega) r k hkr
        rw [List.getElem?_take, if_pos (by omega), List.getElem?_drop, ← hlen.1] at hv
        exact ⟨v, hv, hc⟩
      · cases h2
    · cases h

/-- A slice that reads: xs are the elements' cells. -/
def Sl (w : World) (sz : Nat) (v : Value) (xs : List (List Value)) : Prop :=
  ∃ A cap, v = .slice A xs.length cap ∧ xs.length ≤ cap ∧ cap ≤ maxLen ∧ ∀ (i : Nat) (c : List Value), xs[i]? = some c → c.length = sz ∧ ∃ b off, A = some ⟨b, off, none⟩ ∧ ∀ (j : Nat) (u : Value), c[j]? = some u → w.cell? ⟨b, off + i * sz + j, none⟩ = some u
theorem Sl.below {w w' : World} {sz : Nat} {v : Value} {xs : List (List Value)} (h : Sl w sz v xs) (hb : Below w.heap.size w w') : Sl w' sz v xs := by
  obtain ⟨A, cap, hv, h1, h2, h3⟩ := h
  refine ⟨A, cap, hv, h1, h2, fun i c hc => ?_⟩
  obtain ⟨hl, b, off, hA, hcell⟩ := h3 i c hc
  refine ⟨hl, b, off, hA, fun j u hu => ?_⟩
  have := hcell j u hu
  rw [hb.cell (p := ⟨b, off + i * sz + j, none⟩) (World.block_lt_of_cell? w _ this)]
  exact this

theorem open_flat_slice {r : Reach} {b0 : Nat} {t e : TypeId} {n : Nat} {ks : List (Option IntKind)} {v : Value} {d : DataW H} {p : List MemPlace} (ht : P.underlying t = some (.slice e)) (hk : flatK P n e = some ks) (hl : ks.length = P.cellsOf e) (h0 : 0 < ks.length)
    (hv : Value.okWide P w r b0 t v) (h : DataW.Trod enc P w base spare held t v d p) : ∃ xs, Sl w ks.length v xs ∧ ∀ c ∈ xs, ∀ (i : Nat) (k : Option IntKind), ks[i]? = some k → ∃ u, c[i]? = some u ∧ IsCell k u := by
  obtain ⟨a0, len, cap, rfl⟩ := WideShapes.okWide_slice ht hv
  obtain ⟨fuel, hf⟩ := h
  rcases Deep.open_slice ht hf with ⟨hcs, _⟩ | ⟨a, len', cap', m, n', D, Pl, hcs, _, hle, hm, hmm, _, hx⟩
  · simp [Value.cells] at hcs
    obtain ⟨rfl, rfl, rfl⟩ := hcs
    exact ⟨[], ⟨none, 0, rfl, by simp, by unfold maxLen; omega, by simp⟩, by simp⟩
  · simp [Value.cells] at hcs
    obtain ⟨rfl, rfl, rfl⟩ := hcs
    have hlm : len ≤ m := by rw [hmm]; split <;> omega
    have hcell : ∀ i, i < len → ∃ cs', w.cells? base (a.add (i * P.cellsOf e)) (P.cellsOf e) = some cs' ∧ (∀ (j : Nat) (k : Option IntKind), ks[j]? = some k → ∃ u, cs'[j]? = some u ∧ IsCell k u) := by
      intro i hi
      obtain ⟨cs', h1, h2⟩ := hx i (by omega)
      refine ⟨cs', h1, fun j k hj => flat_reads n n' e ks cs' _ hk h2 (World.cells?_some h1).2.1 j k hj⟩
    let f : Nat → List Value := fun i => if hi : i < len then Classical.choose (hcell i hi) else []
    have hf' : ∀ i (hi : i < len), w.cells? base (a.add (i * P.cellsOf e)) (P.cellsOf e) = some (f i) ∧ (∀ (j : Nat) (k : Option IntKind), ks[j]? = some k → ∃ u, (f i)[j]? = some u ∧ IsCell k u) := by
      intro i hi
      have := Classical.choose_spec (hcell i hi)
      simp only [f, dif_pos hi]
      exact this
    refine ⟨(List.range len).map f, ⟨some a, cap, by simp, by simpa using hle, hm, fun i c hc => ?_⟩, fun c hc i k hi => ?_⟩
    · obtain ⟨hi, rfl⟩ : i < len ∧ f i = c := by
        rw [List.getElem?_map] at hc
        by_cases hi : i < len
        · rw [List.getElem?_range hi] at hc; exact ⟨hi, by simpa using hc⟩
        · rw [List.getElem?_eq_none (by simpa using hi)] at hc; cases hc
      obtain ⟨h1, h2⟩ := hf' i hi
      obtain ⟨_, hlen, hce⟩ := World.cells?_some h1
      have hfl : (f i).length = ks.length := by omega
      refine ⟨hfl, a.block, a.off, ?_, fun j u hu => ?_⟩
      · have hspot : a.spot = none := by
          have hc0 := hce 0 (by omega)
          rw [List.getElem?_eq_getElem (by omega)] at hc0
          have := World.cell?_spot hc0
          by_cases hz : i * P.cellsOf e = 0
          · simpa [Addr.add, hz] using this
          · -- element 0 tells it
            obtain ⟨h1', _⟩ := hf' 0 (by omega)
            obtain ⟨_, hlen', hce'⟩ := World.cells?_some h1'
            have hc0' := hce' 0 (by omega)
            rw [List.getElem?_eq_getElem (by omega)] at hc0'
            have := World.cell?_spot hc0'
            simpa [Addr.add] using this
        cases a; simp at hspot; simp [hspot]
      · have hj : j < (f i).length := (List.getElem?_eq_some_iff.1 hu).1
        have := hce j (by omega)
        rw [hu] at this
        have hspot : a.spot = none := by
          obtain ⟨h1', _⟩ := hf' 0 (by omega)
          obtain ⟨_, hlen', hce'⟩ := World.cells?_some h1'
          have hc0' := hce' 0 (by omega)
          rw [List.getElem?_eq_getElem (by omega)] at hc0'
          have := World.cell?_spot hc0'
          simpa [Addr.add] using this
        have ha : a = ⟨a.block, a.off, none⟩ := by cases a; simp at hspot; simp [hspot]
        rw [ha, add_lit0, add_lit0, ← hl] at this
        exact this
    · obtain ⟨j, hj, rfl⟩ := List.mem_map.1 hc
      exact (hf' j (by simpa using hj)).2 i k hi
end

/-! the cells of the small structs -/
structure Sp where
  x : Int
  y : Int
def Sp.cells (s : Sp) : List Value := [.int .i8 s.x, .int .i8 s.y]
def Sp.ok (s : Sp) : Prop := -128 ≤ s.x ∧ s.x ≤ 127 ∧ -128 ≤ s.y ∧ s.y ≤ 127
structure Sk where
  x : Int
  y : Int
  r : Int
def Sk.cells (s : Sk) : List Value := [.int .i8 s.x, .int .i8 s.y, .int .i16 s.r]
def Sk.ok (s : Sk) : Prop := -128 ≤ s.x ∧ s.x ≤ 127 ∧ -128 ≤ s.y ∧ s.y ≤ 127 ∧ -32768 ≤ s.r ∧ s.r ≤ 32767
structure Gt where
  x : Int
  y : Int
  u : Int
  v : Int
  rope : Int
  eats : Int
  likes : Int
def Gt.cells (g : Gt) : List Value := [.int .i8 g.x, .int .i8 g.y, .int .i8 g.u, .int .i8 g.v, .int .i16 g.rope, .int .i16 g.eats, .int .i8 g.likes]
def Gt.ok (g : Gt) : Prop := (-128 ≤ g.x ∧ g.x ≤ 127 ∧ -128 ≤ g.y ∧ g.y ≤ 127) ∧ (-128 ≤ g.u ∧ g.u ≤ 127 ∧ -128 ≤ g.v ∧ g.v ≤ 127) ∧ (-32768 ≤ g.rope ∧ g.rope ≤ 32767) ∧ (-32768 ≤ g.eats ∧ g.eats ≤ 32767) ∧ -128 ≤ g.likes ∧ g.likes ≤ 127
structure Hd where
  x : Int
  y : Int
  s : Bool
def Hd.cells (h : Hd) : List Value := [.int .i8 h.x, .int .i8 h.y, .bool h.s]
def Hd.ok (h : Hd) : Prop := -128 ≤ h.x ∧ h.x ≤ 127 ∧ -128 ≤ h.y ∧ h.y ≤ 127
theorem list_of_cells {α : Type} {f : α → List Value} {p : α → Prop} (xs : List (List Value)) (h : ∀ c ∈ xs, ∃ s, c = f s ∧ p s) : ∃ l : List α, xs = l.map f ∧ ∀ s ∈ l, p s := by
  induction xs with
  | nil => exact ⟨[], rfl, by simp⟩
  | cons c xs ih =>
    obtain ⟨s, hs, hp⟩ := h c (by simp)
    obtain ⟨l, hl, hq⟩ := ih fun d hd => h d (List.mem_cons_of_mem _ hd)
    exact ⟨s :: l, by simp [hs, hl], fun t ht => by rcases List.mem_cons.1 ht with rfl | ht; exact hp; exact hq t ht⟩
theorem sl_elem {w : World} {sz : Nat} {v : Value} {xs : List (List Value)} (h : Sl w sz v xs) (c : List Value) (hc : c ∈ xs) : c.length = sz ∧ True := by
  obtain ⟨A, cap, _, _, _, h3⟩ := h
  obtain ⟨i, hi⟩ := List.mem_iff_getElem?.1 hc
  exact ⟨(h3 i c hi).1, trivial⟩
end Go.Proofs.Ytpifngdmlmfnhaa
/- Cells of slices laid in blocks. Slices of at most 2 to the power 20 elements. -/
namespace Go.Proofs.Ytpifngdmlmfnhaa
set_option linter.unusedVariables false
set_option linter.unusedSimpArgs false
open Go.RowKit Mem

theorem flat_get {sz : Nat} (l : List (List Value)) (hl : ∀ c ∈ l, c.length = sz) (i : Nat) (c : List Value) (hc : l[i]? = some c) (j : Nat) (hj : j < sz) : l.flatten[i * sz + j]? = c[j]? := by
  induction l generalizing i with
  | nil => simp at hc
  | cons d l ih =>
    have hd := hl d (by simp)
    rw [List.flatten_cons]
    match i with
    | 0 => simp at hc; subst hc; rw [List.getElem?_append_left (by omega)]; simp
    | i + 1 =>
      rw [Nat.succ_mul, List.getElem?_append_right (by omega)]
      rw [show i * sz + sz + j - d.length = i * sz + j by omega]
      exact ih (fun c hc => hl c (List.mem_cons_of_mem _ hc)) i (by simpa using hc)
theorem flat_len {sz : Nat} (l : List (List Value)) (hl : ∀ c ∈ l, c.length = sz) : l.flatten.length = l.length * sz := by
  induction l with
  | nil => simp
  | cons d l ih => rw [List.flatten_cons, List.length_append, ih fun c hc => hl c (List.mem_cons_of_mem _ hc), hl d (by simp), List.length_cons, Nat.succ_mul]; omega
/-- A block that holds these cells reads as a slice. -/
theorem Sl.of_block {w : World} {sz g n : Nat} {T : TypeId} {cs : Array Value} {l : List (List Value)} (hl : ∀ c ∈ l, c.length = sz) (hn : l.length = n) (hm : n ≤ maxLen) (hg : w.heap[g]? = some (.cells cs T (0, 0))) (hcs : ∀ j, j < l.length * sz → cs[j]? = l.flatten[j]?) : Sl w sz (.slice (some ⟨g, 0, none⟩) n n) l := by
  subst hn
  refine ⟨_, _, rfl, Nat.le_refl _, hm, fun i c hc => ⟨hl c (List.mem_of_getElem? hc), g, 0, rfl, fun j u hu => ?_⟩⟩
  have hj : j < sz := by rw [← hl c (List.mem_of_getElem? hc)]; exact (List.getElem?_eq_some_iff.1 hu).1
  have hi : i < l.length := (List.getElem?_eq_some_iff.1 hc).1
  have hb : i * sz + j < l.length * sz := by
    have := Nat.mul_le_mul_right sz hi
    rw [Nat.succ_mul] at this
    omega
  rw [cell_of_row w g _ cs T (0, 0) hg, Nat.zero_add, hcs _ hb, flat_get l hl i c hc j hj]
  exact hu
end Go.Proofs.Ytpifngdmlmfnhaa
/- More laws of the walk: a guarded operation that runs; the end of a drawn region; contracts that leave the heap below as it was. -/
namespace Go.Proofs.Ytpifngdmlmfnhaa
set_option linter.unusedVariables false
open Go.RowKit Mem
def Halt (p : Prop) : Prop := p
theorem halt {p : Prop} (h : Halt p) : p := h
theorem wpl_ungate {P : Program} {ops : Array Oper} {Q : Exit → Act → World → Prop} {a : Act} {w : World} {rest : List Oper} {d : Option Tmp} {op : Op} {t : TypeId} {ps : String} {af : Array Edge} {g : Nat × Bool} (hw : Region.wanted ⟨d, op, t, ps, af, some g⟩ (yielded ops a.tmps) = true)
    (h : wpList P ops Q (⟨d, op, t, ps, af, none⟩ :: rest) a w) : wpList P ops Q (⟨d, op, t, ps, af, some g⟩ :: rest) a w := by
  unfold wpList at h ⊢
  rw [if_pos (by rfl)] at h
  rw [if_pos hw]
  exact h
theorem to_below {P : Program} {f : FuncId} {args : Array Value} {w : World} {v v' : Value} (h : Calls P f args w fun e w' => e = .returned v ∧ w = w') (hv : v = v') : Calls P f args w fun e w' => e = .returned v' ∧ Below w.heap.size w w' :=
  h.mono fun e w' ⟨h1, h2⟩ => by subst h2; subst hv; exact ⟨h1, Below.refl _ _⟩
/-- What was tracked and not written: all below is as it was. -/
theorem Mem.Own.toBelow1 {B : Nat} {g : Nat} {T : TypeId} {cs : Array Value} {w0 w : World} {L : List (Nat × TypeId × Array Value)} (h : Own B [g] w0 w L) (h0 : w0.heap[g]? = some (.cells cs T (0, 0))) (h1 : w.heap[g]? = some (.cells cs T (0, 0))) : Below B w0 w :=
  ⟨h.os, h.tape, h.output, h.size, fun k hk => by
    by_cases e : k = g
    · subst e; rw [h0, h1]
    · exact h.others k hk e⟩
theorem lex_nil {P : Program} {ops : Array Oper} {B : Nat} {w : World} {pl : Nat → Calm.Plan} {K2 : Act → Calm.Made → Prop} {k : Nat} {a : Act} {E : Calm.Made} (h : K2 a E) : Calm.wpLex P ops B w pl K2 [] k a E := h
end Go.Proofs.Ytpifngdmlmfnhaa
