import Derived.Test.YtpifngdmlmfnhaaProg
import Derived.BigQuiet
import Derived.Deep.LoopGhost
import Derived.Deep.QuietTactic
import Derived.KernelRfl
import Derived.Lib.Hide
import Derived.WalkKit
import Derived.Test.YtpifngdmlmfnhaaQD01
import Derived.Test.YtpifngdmlmfnhaaQD02
/- The seat's tables: fields, arrays, slices, sizes, kinds of its types. No condition. -/
namespace Go.Proofs.Ytpifngdmlmfnhaa
open Go Wk
def tF : List (Nat × Nat × Nat) := [(13, 0, 0), (13, 1, 1), (28, 0, 0), (28, 1, 1), (28, 2, 2), (28, 3, 102), (28, 4, 112), (29, 0, 0), (29, 1, 1), (29, 2, 2), (29, 3, 102), (29, 4, 112), (34, 0, 0), (34, 1, 1), (34, 2, 2), (34, 3, 102), (34, 4, 112), (87, 0, 0), (87, 1, 1), (88, 0, 0), (88, 1, 1), (96, 0, 0), (96, 1, 1), (97, 0, 0), (97, 1, 2), (97, 2, 4), (97, 3, 5), (97, 4, 6), (98, 0, 0), (98, 1, 2), (98, 2, 4), (98, 3, 5), (98, 4, 6), (101, 0, 0), (101, 1, 2), (101, 2, 4), (101, 3, 5), (101, 4, 6), (102, 0, 0), (102, 1, 2), (102, 2, 4), (102, 3, 5), (102, 4, 6), (131, 0, 0), (131, 1, 2), (132, 0, 0), (132, 1, 2), (138, 0, 0), (138, 1, 2), (139, 0, 0), (139, 1, 2), (174, 0, 0), (174, 1, 2), (175, 0, 0), (175, 1, 2), (177, 0, 0), (177, 1, 2), (178, 0, 0), (178, 1, 2), (262, 0, 0), (262, 1, 1), (262, 2, 2), (263, 0, 0), (263, 1, 1), (263, 2, 2)]
def tA : List (Nat × Nat × Nat) := [(24, 10, 1), (25, 10, 10), (27, 10, 1), (127, 10, 1), (128, 10, 10), (152, 2, 1), (157, 10, 1), (158, 10, 10), (182, 10, 10)]
def tL : List (Nat × Nat × Nat) := [(30, 139, 3), (36, 132, 3), (40, 88, 2), (47, 152, 2), (52, 98, 7), (55, 102, 7), (60, 96, 2), (66, 178, 3), (69, 175, 3), (73, 60, 1), (76, 40, 1), (84, 5, 1), (108, 2, 1), (278, 4, 1)]
def tS : List (Nat × Bool × Nat) := [(1, false, 1), (2, false, 1), (3, false, 1), (4, false, 1), (5, false, 1), (9, false, 1), (12, false, 1), (13, true, 2), (20, false, 1), (21, false, 1), (22, false, 1), (23, false, 1), (24, true, 10), (25, true, 100), (26, false, 1), (27, true, 10), (28, true, 122), (29, true, 122), (30, false, 1), (31, false, 1), (33, false, 1), (34, true, 122), (35, false, 1), (36, false, 1), (37, false, 1), (38, false, 1), (39, false, 1), (40, false, 1), (42, false, 1), (43, false, 1), (44, false, 1), (45, false, 1), (46, false, 1), (47, false, 1), (49, false, 1), (50, false, 1), (51, false, 1), (52, false, 1), (53, false, 1), (54, false, 1), (55, false, 1), (56, false, 1), (57, false, 1), (58, false, 1), (59, false, 1), (60, false, 1), (61, false, 1), (63, false, 1), (64, false, 1), (65, false, 1), (66, false, 1), (67, false, 1), (68, false, 1), (69, false, 1), (70, false, 1), (71, false, 1), (72, false, 1), (73, false, 1), (74, false, 1), (75, false, 1), (76, false, 1), (77, false, 1), (78, false, 1), (79, false, 1), (81, false, 1), (82, false, 1), (83, false, 1), (84, false, 1), (85, false, 1), (86, false, 1), (87, true, 2), (88, true, 2), (89, false, 1), (90, false, 1), (91, false, 1), (92, false, 1), (93, false, 1), (94, false, 1), (95, false, 1), (96, true, 2), (97, true, 7), (98, true, 7), (100, false, 1), (101, true, 7), (102, true, 7), (103, false, 1), (104, false, 1), (105, false, 1), (106, false, 1), (107, false, 1), (108, false, 1), (110, false, 1), (111, false, 1), (113, false, 1), (114, false, 1), (115, false, 1), (116, false, 1), (117, false, 1), (118, false, 1), (120, false, 1), (121, false, 1), (123, false, 1), (124, false, 1), (125, false, 1), (126, false, 1), (127, true, 10), (128, true, 100), (129, false, 1), (130, false, 1), (131, true, 3), (132, true, 3), (133, false, 1), (134, false, 1), (135, false, 1), (136, false, 1), (137, false, 1), (138, true, 3), (139, true, 3), (140, false, 1), (141, false, 1), (142, false, 1), (143, false, 1), (144, false, 1), (145, false, 1), (146, false, 1), (147, false, 1), (148, false, 1), (149, false, 1), (150, false, 1), (151, false, 1), (152, true, 2), (153, false, 1), (154, false, 1), (155, false, 1), (156, false, 1), (157, true, 10), (158, true, 100), (159, false, 1), (160, false, 1), (161, false, 1), (162, false, 1), (163, false, 1), (164, false, 1), (165, false, 1), (166, false, 1), (167, false, 1), (168, false, 1), (169, false, 1), (170, false, 1), (171, false, 1), (173, false, 1), (174, true, 3), (175, true, 3), (176, false, 1), (177, true, 3), (178, true, 3), (179, false, 1), (180, false, 1), (181, false, 1), (182, true, 100), (183, false, 1), (184, false, 1), (185, false, 1), (186, false, 1), (187, false, 1), (188, false, 1), (189, false, 1), (190, false, 1), (191, false, 1), (192, false, 1), (193, false, 1), (194, false, 1), (195, false, 1), (196, false, 1), (197, false, 1), (198, false, 1), (199, false, 1), (200, false, 1), (201, false, 1), (202, false, 1), (203, false, 1), (204, false, 1), (205, false, 1), (206, false, 1), (207, false, 1), (208, false, 1), (210, false, 1), (211, false, 1), (212, false, 1), (213, false, 1), (214, false, 1), (215, false, 1), (216, false, 1), (218, false, 1), (220, false, 1), (221, false, 1), (222, false, 1), (223, false, 1), (224, false, 1), (225, false, 1), (226, false, 1), (227, false, 1), (228, false, 1), (229, false, 1), (230, false, 1), (231, false, 1), (232, false, 1), (233, false, 1), (234, false, 1), (235, false, 1), (236, false, 1), (237, false, 1), (238, false, 1), (239, false, 1), (240, false, 1), (241, false, 1), (242, false, 1), (243, false, 1), (244, false, 1), (245, false, 1), (246, false, 1), (247, false, 1), (248, false, 1), (249, false, 1), (250, false, 1), (251, false, 1), (252, false, 1), (253, false, 1), (254, false, 1), (255, false, 1), (256, false, 1), (257, false, 1), (258, false, 1), (259, false, 1), (260, false, 1), (261, false, 1), (262, true, 3), (263, true, 3), (264, false, 1), (265, false, 1), (266, false, 1), (267, false, 1), (268, false, 1), (269, false, 1), (270, false, 1), (271, false, 1), (272, false, 1), (273, false, 1), (274, false, 1), (275, false, 1), (276, false, 1), (277, false, 1), (278, false, 1), (279, false, 1), (285, false, 1), (286, false, 1), (289, false, 1), (290, false, 1)]
def tK : List (Nat × IntKind) := [(2, .i64), (3, .i64), (5, .u8), (12, .u64), (21, .i32), (22, .i8), (23, .i16), (26, .u16), (254, .u64), (261, .u64), (286, .u32)]
theorem tF_ok : tF.all (chkF Try.prog) = true := by kernel_rfl
theorem tA_ok : tA.all (chkA Try.prog) = true := by kernel_rfl
theorem tL_ok : tL.all (chkL Try.prog) = true := by kernel_rfl
theorem tS_ok : tS.all (chkS Try.prog) = true := by kernel_rfl
theorem tK_ok : tK.all (chkK Try.prog) = true := by kernel_rfl
def tb : Tb Try.prog := ⟨tF, tA, tL, tS, tK, tF_ok, tA_ok, tL_ok, tS_ok, tK_ok⟩
end Go.Proofs.Ytpifngdmlmfnhaa
/- Plain words: arrays of numbers, spots, pastures as cells. No condition. -/
namespace Go.Proofs.Ytpifngdmlmfnhaa
set_option linter.unusedVariables false
set_option linter.unusedSimpArgs false
open Go.RowKit Mem

theorem min2_int (k k' : IntKind) (x y : Int) : Builtin.min2 (.int k x) (.int k' y) = pure (.int k (min x y)) := by
  simp only [Builtin.min2]; congr 2; omega
theorem min_two (ats : Array TypeId) (ty : TypeId) (a b : Value) : Builtin.min_ ats ty #[a, b] = (Builtin.min2 a b >>= fun s => pure s) := by simp only [Builtin.min_, List.foldlM_cons, List.foldlM_nil]
/-- n cells, each a number of this kind -/
def IntsOf (k : IntKind) (n : Nat) (cs : Array Value) : Prop := cs.size = n ∧ ∀ j, j < n → ∃ x, cs[j]? = some (.int k x)
theorem IntsOf.one {k : IntKind} {n : Nat} {cs : Array Value} (h : IntsOf k n cs) : ∀ v ∈ cs.toList, v.oneCell' = true := by
  intro v hv
  obtain ⟨j, hj, rfl⟩ := List.mem_iff_getElem.1 hv
  obtain ⟨x, hx⟩ := h.2 j (by simpa [h.1] using hj)
  have : cs.toList[j] = .int k x := by
    have h2 : cs.toList[j]? = some (.int k x) := by simpa using hx
    exact (List.getElem?_eq_some_iff.1 h2).2
  rw [this]; rfl
theorem IntsOf.part {k : IntKind} {n : Nat} {cs : Array Value} (h : IntsOf k n cs) (off m : Nat) (hm : off + m ≤ n) : IntsOf k m (cs.extract off (off + m)) := by
  refine ⟨by have := h.1; simp; omega, fun j hj => ?_⟩
  obtain ⟨x, hx⟩ := h.2 (off + j) (by omega)
  refine ⟨x, ?_⟩
  rw [Array.getElem?_extract, if_pos (by have := h.1; omega)]
  exact hx
theorem arr_ext {n : Nat} {a b : Array Value} (ha : a.size = n) (hb : b.size = n) (h : ∀ j, j < n → a[j]? = b[j]?) : a = b := by
  apply Array.ext_getElem?
  intro j
  by_cases hj : j < n
  · exact h j hj
  · rw [Array.getElem?_eq_none (by omega), Array.getElem?_eq_none (by omega)]
theorem set_prefix {k : Nat} {o cs : Array Value} {v : Value} (hfit : k < o.size) (hv : cs[k]? = some v) (HP : ∀ j, j < k → o[j]? = cs[j]?) : ∀ j, j < k + 1 → (o.setIfInBounds k v)[j]? = cs[j]? := fun j hj => by
  by_cases e : j = k
  · subst e; simp [hfit, hv]
  · rw [Array.getElem?_setIfInBounds_ne (by omega)]; exact HP j (by omega)
theorem splice_prefix {k m : Nat} {o cs : Array Value} (hfit : k * m + m ≤ o.size) (hcs : k * m + m ≤ cs.size) (HP : ∀ j, j < k * m → o[j]? = cs[j]?) : ∀ j, j < (k + 1) * m → (splice o (k * m) (cs.extract (k * m) (k * m + m)))[j]? = cs[j]? := fun j hj => by
  have e1 : (k + 1) * m = k * m + m := Nat.succ_mul k m
  have hs : (cs.extract (k * m) (k * m + m)).size = m := by simp; omega
  rw [splice_get _ _ _ (by rw [hs]; exact hfit), hs]
  by_cases e : k * m ≤ j
  · rw [if_pos ⟨e, by omega⟩, Array.getElem?_extract, if_pos (by omega)]
    congr 1
    omega
  · rw [if_neg (by omega)]; exact HP j (by omega)

/-- n zeros of a kind -/
def zr (k : IntKind) (n : Nat) : Array Value := Array.replicate n (.int k 0)
theorem zr_size (k : IntKind) (n : Nat) : (zr k n).size = n := by simp [zr]
/-- the kind of a pasture's cell -/
def pk (i : Nat) : IntKind := if i < 2 then .i8 else if i < 102 then .i16 else .u16
/-- a pasture's cells: Wide, High, 100 of grass, 10 of east, 10 of south -/
structure Pv (p : Nat → Int) (cs : Array Value) : Prop where
  size : cs.size = 122
  get : ∀ i, i < 122 → cs[i]? = some (.int (pk i) (p i))
  i8 : ∀ i, i < 2 → -128 ≤ p i ∧ p i ≤ 127
  i16 : ∀ i, 2 ≤ i → i < 102 → -32768 ≤ p i ∧ p i ≤ 32767
  u16 : ∀ i, 102 ≤ i → i < 122 → 0 ≤ p i ∧ p i ≤ 65535
theorem Pv.one {p : Nat → Int} {cs : Array Value} (h : Pv p cs) : ∀ v ∈ cs.toList, v.oneCell' = true := by
  intro v hv
  obtain ⟨j, hj, rfl⟩ := List.mem_iff_getElem.1 hv
  have hj' : j < 122 := by simpa [h.size] using hj
  have h2 : cs.toList[j]? = some (.int (pk j) (p j)) := by simpa using h.get j hj'
  rw [(List.getElem?_eq_some_iff.1 h2).2]; rfl
theorem Pv.g0 {p : Nat → Int} {cs : Array Value} (h : Pv p cs) : cs[0]? = some (.int .i8 (p 0)) := h.get 0 (by omega)
theorem Pv.g1 {p : Nat → Int} {cs : Array Value} (h : Pv p cs) : cs[1]? = some (.int .i8 (p 1)) := h.get 1 (by omega)
theorem Pv.grass {p : Nat → Int} {cs : Array Value} (h : Pv p cs) (i : Nat) (h1 : 2 ≤ i) (h2 : i < 102) : cs[i]? = some (.int .i16 (p i)) := by
  have := h.get i (by omega)
  unfold pk at this
  rwa [if_neg (by omega), if_pos h2] at this
theorem Pv.side {p : Nat → Int} {cs : Array Value} (h : Pv p cs) (i : Nat) (h1 : 102 ≤ i) (h2 : i < 122) : cs[i]? = some (.int .u16 (p i)) := by
  have := h.get i h2
  unfold pk at this
  rwa [if_neg (by omega), if_neg (by omega)] at this
theorem Pv.ints16 {p : Nat → Int} {cs : Array Value} (h : Pv p cs) : IntsOf .i16 100 (cs.extract 2 102) := by
  refine ⟨by have := h.size; simp; omega, fun j hj => ⟨p (2 + j), ?_⟩⟩
  rw [Array.getElem?_extract, if_pos (by have := h.size; omega)]
  exact h.grass _ (by omega) (by omega)
theorem Pv.intsE {p : Nat → Int} {cs : Array Value} (h : Pv p cs) : IntsOf .u16 10 (cs.extract 102 112) := by
  refine ⟨by have := h.size; simp; omega, fun j hj => ⟨p (102 + j), ?_⟩⟩
  rw [Array.getElem?_extract, if_pos (by have := h.size; omega)]
  exact h.side _ (by omega) (by omega)
theorem Pv.intsS {p : Nat → Int} {cs : Array Value} (h : Pv p cs) : IntsOf .u16 10 (cs.extract 112 122) := by
  refine ⟨by have := h.size; simp; omega, fun j hj => ⟨p (112 + j), ?_⟩⟩
  rw [Array.getElem?_extract, if_pos (by have := h.size; omega)]
  exact h.side _ (by omega) (by omega)
/-- the cells of the zero pasture -/
def zP : Array Value := ((List.replicate 2 (Value.int .i8 0)) ++ List.replicate 100 (Value.int .i16 0) ++ List.replicate 20 (Value.int .u16 0)).toArray
theorem zP_pv : Pv (fun _ => 0) zP := by
  refine ⟨rfl, fun i hi => ?_, fun _ _ => by omega, fun _ _ _ => by omega, fun _ _ _ => by omega⟩
  simp only [zP, pk, List.getElem?_toArray, List.append_assoc]
  by_cases h1 : i < 2
  · rw [List.getElem?_append_left (by simpa using h1), if_pos h1, List.getElem?_replicate, if_pos h1]
  · rw [List.getElem?_append_right (by simp; omega), if_neg h1, List.length_replicate]
    by_cases h2 : i < 102
    · rw [List.getElem?_append_left (by simp; omega), if_pos h2, List.getElem?_replicate, if_pos (by omega)]
    · rw [List.getElem?_append_right (by simp; omega), if_neg h2, List.length_replicate, List.getElem?_replicate, if_pos (by omega)]
theorem Pv.ext {p q : Nat → Int} {cs ds : Array Value} (h : Pv p cs) (h' : Pv q ds) (he : ∀ i, i < 122 → p i = q i) : cs = ds :=
  arr_ext h.size h'.size fun j hj => by rw [h.get j hj, h'.get j hj, he j hj]
end Go.Proofs.Ytpifngdmlmfnhaa
