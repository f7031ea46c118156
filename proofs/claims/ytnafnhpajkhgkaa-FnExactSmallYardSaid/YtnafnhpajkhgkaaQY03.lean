import Derived.Laws.AppendOwn
import Derived.Test.YtnafnhpajkhgkaaProg
import Derived.BigQuiet
import Derived.Deep.LoopGhost
import Derived.Deep.QuietTactic
import Derived.KernelRfl
import Derived.Lib.Hide
import Derived.WalkKit
import Derived.Test.YtnafnhpajkhgkaaQY01
import Derived.Test.YtnafnhpajkhgkaaQY02
/- append to a slice of the walk's own. Plain theorems; no condition but that the lengths are not beyond all bounds. -/
namespace Go.Proofs.Ytnafnhpajkhgkaa.Wk
set_option linter.unusedVariables false
set_option linter.unusedSimpArgs false
open Go Go.RowKit Mem
variable {P : Program} {n : Nat} {O : List Nat} {w0 : World} {l : List (Nat × Value)} {L pre post : List (Nat × TypeId × Array Value)} {Q : Exit → Act → World → Prop} {ops : Array Oper} {o : Oper} {rest : List Oper} {d : Nat} {x y : Operand}
theorem Kn.perm {w : World} {L' : List (Nat × TypeId × Array Value)} (h : Kn O w0 w L) (hp : L.Perm L') : Kn O w0 w L' :=
  ⟨h.os, h.tape, h.output, h.size, h.base, fun k hk hx => h.keep k hk fun b hb => hx b (hp.mem_iff.1 hb), fun b hb => h.low b (hp.mem_iff.2 hb), fun b hb => h.has b (hp.mem_iff.2 hb), (hp.map _).nodup_iff.1 h.nodup⟩
theorem SlA.at_ {O : List Nat} {w0 w : World} {sz : Nat} {A : Option Addr} {xs : List (List Value)} {L : List (Nat × TypeId × Array Value)} (hS : SlA O w0 sz A xs) (hL : Kn O w0 w L) : SlA O w sz A xs := fun i c h => by
  obtain ⟨a, b, d, e, g, h'⟩ := hS i c h
  exact ⟨a, b, d, e, g, fun j u hu => Kn.oldc hL (h' j u hu) g⟩
theorem Kn.rid {w : World} {b : Nat × TypeId × Array Value} (h : Kn O w0 w (b :: L)) (hb : b.1 ∉ O) : Kn O w0 w L :=
  Own.drop h 1 fun a ha => by
    have e : a = b := by simpa using ha
    subst e
    exact (h.low a List.mem_cons_self).resolve_right hb
theorem Kn.swapIn {w : World} {a b : Nat × TypeId × Array Value} (h : Kn O w0 w (b :: (pre ++ a :: post))) (ha : a.1 ∉ O) : Kn O w0 w (pre ++ b :: post) := by
  have h1 : Kn O w0 w (a :: b :: (pre ++ post)) := h.perm (((List.perm_middle (l₁ := pre) (a := a) (l₂ := post)).cons b).trans (List.Perm.swap a b _))
  exact (h1.rid ha).perm List.perm_middle.symm
/-- A slice of the walk's own: n elements of sz cells in a block cur that has room for cap. -/
structure Ap (sz n cap : Nat) (cur : Array Value) (xs : List Value) : Prop where
  len : xs.length = n * sz
  le : n ≤ cap
  max : cap ≤ maxLen
  size : cur.size = cap * sz
  take : cur.toList.take (n * sz) = xs
theorem Ap.nil (sz : Nat) : Ap sz 0 0 #[] [] := ⟨by simp, Nat.le_refl _, by unfold maxLen; omega, by simp, by simp⟩
/-- What append gives; and what stands then. -/
theorem run_app {t ty e : TypeId} {z : Value} {sz bytes : Nat} (ht : P.underlying t = some (.slice e)) (hi : (P.info? e).map (fun i => (i.zero, i.size, i.bytes)) = some (some z, sz, bytes)) (hzs : z.cells.size = sz) (hsz : 0 < sz)
    {w : World} {g k cap : Nat} {cur : Array Value} {xs : List Value} (hA : Ap sz k cap cur xs) (hL : Kn O w0 w (pre ++ (g, e, cur) :: post)) (hO : g ∉ O) {g2 m c : Nat} {T2 : TypeId} {c2 : Array Value} (h2 : w.heap[g2]? = some (.cells c2 T2 (0, 0))) {news : List Value} (hl : news.length = m * sz) (hn : c2.toList.take (m * sz) = news) (h1 : ∀ u ∈ news, u.oneCell' = true)
    (h63 : k + m ≤ maxLen) (hbytes : (k + m) * bytes ≤ 140737488355328) :
    ∃ g' cap' cur' w', (Builtin.append_ #[t, t] ty #[.slice (some ⟨g, 0, none⟩) k cap, .slice (some ⟨g2, 0, none⟩) m c]).run P w = .ok (.slice (some ⟨g', 0, none⟩) (k + m) cap') w' ∧ Ap sz (k + m) cap' cur' (xs ++ news) ∧ Kn O w0 w' (pre ++ (g', e, cur') :: post) := by
  obtain ⟨i, q1, q2, q3, q4⟩ := info_parts hi
  subst q3; subst q4
  have hg := hL.has (g, e, cur) (by simp)
  have hnews : ∀ j u, news[j]? = some u → w.cell? ((⟨g2, 0, none⟩ : Addr).add j) = some u := fun j u hu => by
    rw [add_lit0, Nat.zero_add, cell_of_row w g2 j c2 T2 (0, 0) h2]
    subst hn
    rw [List.getElem?_take] at hu
    split at hu
    · simpa using hu
    · cases hu
  have hlen : (xs ++ news).length = (k + m) * i.size := by rw [List.length_append, hA.len, hl, Nat.add_mul]
  by_cases hroom : k + m ≤ cap
  · have hfit : k * i.size + news.length ≤ cur.size := by rw [hl, hA.size, ← Nat.add_mul]; exact Nat.mul_le_mul_right _ hroom
    have hr := run_append_room (P := P) w t ty e i ht q1 g k cap cur hg ⟨g2, 0, none⟩ m c news hl hnews h1 hroom hfit
    refine ⟨g, cap, (cur.toList.take (k * i.size) ++ news ++ cur.toList.drop (k * i.size + news.length)).toArray, _, hr, ⟨hlen, hroom, hA.max, ?_, ?_⟩, ?_⟩
    · have := hA.size
      simp only [List.size_toArray, List.length_append, List.length_take, List.length_drop, Array.length_toList]
      omega
    · rw [hA.take, ← hlen]
      exact List.take_left
    · have hp : Kn O w0 w ((g, e, cur) :: (pre ++ post)) := hL.perm List.perm_middle
      exact Kn.perm (L := (g, e, _) :: (pre ++ post)) (Own.put hp (i := 0) rfl _) List.perm_middle.symm
  · have holds : ∀ j u, xs[j]? = some u → w.cell? ((⟨g, 0, none⟩ : Addr).add j) = some u := fun j u hu => by
      rw [add_lit0, Nat.zero_add, cell_of_row w g j cur e (0, 0) hg]
      rw [← hA.take, List.getElem?_take] at hu
      split at hu
      · simpa using hu
      · cases hu
    have hsmall : k + m ≤ 9223372036854775807 := by simp only [maxLen] at h63; omega
    have hle := hA.le
    have hr := run_append_grow (P := P) w t ty e i z ht q1 q2 ⟨g, 0, none⟩ k cap xs hA.len holds ⟨g2, 0, none⟩ m c news hl hnews (by omega) (by omega) (growslice_fits (by omega) hbytes)
    have hge := grownCap_ge w (k + m) cap e
    refine ⟨w.heap.size, grownCap w (k + m) cap e, xs.toArray ++ news.toArray ++ Builtin.zeroCells z.cells (grownCap w (k + m) cap e - (k + m)), _, hr, ⟨hlen, hge, grownCap_le_maxLen w (k + m) cap e h63, ?_, ?_⟩, ?_⟩
    · simp only [Array.size_append, List.size_toArray, size_zeroCells, hzs, hA.len, hl, ← Nat.add_mul]
      congr 1
      omega
    · simp only [Array.toList_append, List.append_assoc]
      rw [← List.append_assoc, ← hlen]
      exact List.take_left
    · exact Kn.swapIn (b := (w.heap.size, e, _)) (a := (g, e, cur)) (Own.new (Own.drew hL) e _) hO
theorem s_app {t e : TypeId} {z : Value} {sz bytes : Nat} (ho : o.op = .call { callee := .builtin .append, args := #[x, y], argTypes := #[t, t] }) (ht : P.underlying t = some (.slice e)) (hi : (P.info? e).map (fun i => (i.zero, i.size, i.bytes)) = some (some z, sz, bytes)) (hzs : z.cells.size = sz) (hsz : 0 < sz)
    {g k cap : Nat} {cur : Array Value} {xs : List Value} (hA : Ap sz k cap cur xs) (hO : g ∉ O) {g2 m c : Nat} {T2 : TypeId} {c2 : Array Value} {news : List Value} (hx : ev l x = some (.slice (some ⟨g, 0, none⟩) k cap)) (hy : ev l y = some (.slice (some ⟨g2, 0, none⟩) m c)) (hm : (g2, T2, c2) ∈ pre ++ (g, e, cur) :: post) (hl : news.length = m * sz) (hn : c2.toList.take (m * sz) = news) (h1 : ∀ u ∈ news, u.oneCell' = true)
    (h63 : k + m ≤ maxLen) (hbytes : (k + m) * bytes ≤ 140737488355328) (hg : o.guard = none) (hd : o.dst = some d) (hdn : Nat.blt d n = true)
    (h : ∀ g' cap' cur', Ap sz (k + m) cap' cur' (xs ++ news) → S P ops Q n O w0 rest ((d, .slice (some ⟨g', 0, none⟩) (k + m) cap') :: l) (pre ++ (g', e, cur') :: post)) : S P ops Q n O w0 (o :: rest) l (pre ++ (g, e, cur) :: post) := fun a w hF hL =>
  wpList_plain hg fun K hK => by
    obtain ⟨g', cap', cur', w', hr, hA', hL'⟩ := run_app (P := P) (ty := o.type) (c := c) ht hi hzs hsz hA hL hO (hL.has _ hm) hl hn h1 h63 hbytes
    unfold Oper.wp execOp
    simp only [ho, resolve, invoke, builtin, Sem.run_bind, Sem.run_pure, Result.andThen_ok, List.map_toArray, List.map_cons, List.map_nil, hF.eval hx, hF.eval hy, hr]
    show K (a.put o.dst _) w'
    rw [hd]
    exact hK _ _ (h g' cap' cur' hA' _ _ (hF.put hdn _) hL')
theorem s_app0 {t e : TypeId} {z : Value} {sz bytes : Nat} {g k cap : Nat} {cur : Array Value} {xs : List Value} {g2 m c : Nat} {T2 : TypeId} {c2 : List Value} (hA : Ap sz k cap cur xs) (ho : o.op = .call { callee := .builtin .append, args := #[x, y], argTypes := #[t, t] }) (hx : ev l x = some (.slice (some ⟨g, 0, none⟩) k cap)) (hy : ev l y = some (.slice (some ⟨g2, 0, none⟩) m c)) (ht : P.underlying t = some (.slice e)) (hi : (P.info? e).map (fun i => (i.zero, i.size, i.bytes)) = some (some z, sz, bytes)) (hzs : z.cells.size = sz) (hsz : 0 < sz) (hO : g ∉ O) (hO2 : g2 ∉ O) (hl : c2.length = m * sz) (h1 : ∀ u ∈ c2, u.oneCell' = true)
    (h63 : k + m ≤ maxLen) (hbytes : (k + m) * bytes ≤ 140737488355328) (hg : o.guard = none) (hd : o.dst = some d) (hdn : Nat.blt d n = true)
    (h : ∀ g' cap' cur', Ap sz (k + m) cap' cur' (xs ++ c2) → S P ops Q n O w0 rest ((d, .slice (some ⟨g', 0, none⟩) (k + m) cap') :: l) ((g', e, cur') :: L)) : S P ops Q n O w0 (o :: rest) l ((g2, T2, c2.toArray) :: (g, e, cur) :: L) :=
  s_app (pre := [(g2, T2, c2.toArray)]) (post := L) ho ht hi hzs hsz hA hO hx hy List.mem_cons_self hl (by rw [← hl]; simp) h1 h63 hbytes hg hd hdn (fun g' cap' cur' hA' a w hF hL => h g' cap' cur' hA' a w hF (Kn.rid hL hO2))
theorem s_app1 {b0 : Nat × TypeId × Array Value} {t e : TypeId} {z : Value} {sz bytes : Nat} {g k cap : Nat} {cur : Array Value} {xs : List Value} {g2 m c : Nat} {T2 : TypeId} {c2 : List Value} (hA : Ap sz k cap cur xs) (ho : o.op = .call { callee := .builtin .append, args := #[x, y], argTypes := #[t, t] }) (hx : ev l x = some (.slice (some ⟨g, 0, none⟩) k cap)) (hy : ev l y = some (.slice (some ⟨g2, 0, none⟩) m c)) (ht : P.underlying t = some (.slice e)) (hi : (P.info? e).map (fun i => (i.zero, i.size, i.bytes)) = some (some z, sz, bytes)) (hzs : z.cells.size = sz) (hsz : 0 < sz) (hO : g ∉ O) (hO2 : g2 ∉ O) (hl : c2.length = m * sz) (h1 : ∀ u ∈ c2, u.oneCell' = true)
    (h63 : k + m ≤ maxLen) (hbytes : (k + m) * bytes ≤ 140737488355328) (hg : o.guard = none) (hd : o.dst = some d) (hdn : Nat.blt d n = true)
    (h : ∀ g' cap' cur', Ap sz (k + m) cap' cur' (xs ++ c2) → S P ops Q n O w0 rest ((d, .slice (some ⟨g', 0, none⟩) (k + m) cap') :: l) (b0 :: (g', e, cur') :: L)) : S P ops Q n O w0 (o :: rest) l ((g2, T2, c2.toArray) :: b0 :: (g, e, cur) :: L) :=
  s_app (pre := [(g2, T2, c2.toArray), b0]) (post := L) ho ht hi hzs hsz hA hO hx hy List.mem_cons_self hl (by rw [← hl]; simp) h1 h63 hbytes hg hd hdn (fun g' cap' cur' hA' a w hF hL => h g' cap' cur' hA' a w hF (Kn.rid hL hO2))
theorem s_app2 {b0 b1 : Nat × TypeId × Array Value} {t e : TypeId} {z : Value} {sz bytes : Nat} {g k cap : Nat} {cur : Array Value} {xs : List Value} {g2 m c : Nat} {T2 : TypeId} {c2 : List Value} (hA : Ap sz k cap cur xs) (ho : o.op = .call { callee := .builtin .append, args := #[x, y], argTypes := #[t, t] }) (hx : ev l x = some (.slice (some ⟨g, 0, none⟩) k cap)) (hy : ev l y = some (.slice (some ⟨g2, 0, none⟩) m c)) (ht : P.underlying t = some (.slice e)) (hi : (P.info? e).map (fun i => (i.zero, i.size, i.bytes)) = some (some z, sz, bytes)) (hzs : z.cells.size = sz) (hsz : 0 < sz) (hO : g ∉ O) (hO2 : g2 ∉ O) (hl : c2.length = m * sz) (h1 : ∀ u ∈ c2, u.oneCell' = true)
    (h63 : k + m ≤ maxLen) (hbytes : (k + m) * bytes ≤ 140737488355328) (hg : o.guard = none) (hd : o.dst = some d) (hdn : Nat.blt d n = true)
    (h : ∀ g' cap' cur', Ap sz (k + m) cap' cur' (xs ++ c2) → S P ops Q n O w0 rest ((d, .slice (some ⟨g', 0, none⟩) (k + m) cap') :: l) (b0 :: b1 :: (g', e, cur') :: L)) : S P ops Q n O w0 (o :: rest) l ((g2, T2, c2.toArray) :: b0 :: b1 :: (g, e, cur) :: L) :=
  s_app (pre := [(g2, T2, c2.toArray), b0, b1]) (post := L) ho ht hi hzs hsz hA hO hx hy List.mem_cons_self hl (by rw [← hl]; simp) h1 h63 hbytes hg hd hdn (fun g' cap' cur' hA' a w hF hL => h g' cap' cur' hA' a w hF (Kn.rid hL hO2))
theorem s_app3 {b0 b1 b2 : Nat × TypeId × Array Value} {t e : TypeId} {z : Value} {sz bytes : Nat} {g k cap : Nat} {cur : Array Value} {xs : List Value} {g2 m c : Nat} {T2 : TypeId} {c2 : List Value} (hA : Ap sz k cap cur xs) (ho : o.op = .call { callee := .builtin .append, args := #[x, y], argTypes := #[t, t] }) (hx : ev l x = some (.slice (some ⟨g, 0, none⟩) k cap)) (hy : ev l y = some (.slice (some ⟨g2, 0, none⟩) m c)) (ht : P.underlying t = some (.slice e)) (hi : (P.info? e).map (fun i => (i.zero, i.size, i.bytes)) = some (some z, sz, bytes)) (hzs : z.cells.size = sz) (hsz : 0 < sz) (hO : g ∉ O) (hO2 : g2 ∉ O) (hl : c2.length = m * sz) (h1 : ∀ u ∈ c2, u.oneCell' = true)
    (h63 : k + m ≤ maxLen) (hbytes : (k + m) * bytes ≤ 140737488355328) (hg : o.guard = none) (hd : o.dst = some d) (hdn : Nat.blt d n = true)
    (h : ∀ g' cap' cur', Ap sz (k + m) cap' cur' (xs ++ c2) → S P ops Q n O w0 rest ((d, .slice (some ⟨g', 0, none⟩) (k + m) cap') :: l) (b0 :: b1 :: b2 :: (g', e, cur') :: L)) : S P ops Q n O w0 (o :: rest) l ((g2, T2, c2.toArray) :: b0 :: b1 :: b2 :: (g, e, cur) :: L) :=
  s_app (pre := [(g2, T2, c2.toArray), b0, b1, b2]) (post := L) ho ht hi hzs hsz hA hO hx hy List.mem_cons_self hl (by rw [← hl]; simp) h1 h63 hbytes hg hd hdn (fun g' cap' cur' hA' a w hF hL => h g' cap' cur' hA' a w hF (Kn.rid hL hO2))
end Go.Proofs.Ytnafnhpajkhgkaa.Wk
/- The seat's tables: fields, arrays, slices, sizes, kinds of its types. No condition. -/
namespace Go.Proofs.Ytnafnhpajkhgkaa
open Go Wk
def tF : List (Nat × Nat × Nat) := [(13, 0, 0), (13, 1, 1), (28, 0, 0), (28, 1, 1), (28, 2, 2), (28, 3, 102), (28, 4, 112), (29, 0, 0), (29, 1, 1), (29, 2, 2), (29, 3, 102), (29, 4, 112), (32, 0, 0), (32, 1, 1), (32, 2, 2), (32, 3, 102), (32, 4, 112), (48, 0, 0), (48, 1, 1), (49, 0, 0), (49, 1, 1), (52, 0, 0), (52, 1, 1), (65, 0, 0), (65, 1, 2), (66, 0, 0), (66, 1, 2), (87, 0, 0), (87, 1, 1), (87, 2, 2), (87, 3, 3), (88, 0, 0), (88, 1, 1), (88, 2, 2), (88, 3, 3)]
def tA : List (Nat × Nat × Nat) := [(24, 10, 1), (25, 10, 10), (27, 10, 1), (77, 10, 10), (89, 10, 1), (90, 10, 10), (127, 10, 1), (128, 10, 10)]
def tL : List (Nat × Nat × Nat) := [(30, 49, 2), (36, 52, 2), (41, 36, 1), (55, 66, 3), (130, 5, 1), (142, 2, 1), (160, 3, 1)]
def tS : List (Nat × Bool × Nat) := [(1, false, 1), (2, false, 1), (3, false, 1), (4, false, 1), (5, false, 1), (9, false, 1), (12, false, 1), (13, true, 2), (20, false, 1), (21, false, 1), (22, false, 1), (23, false, 1), (24, true, 10), (25, true, 100), (26, false, 1), (27, true, 10), (28, true, 122), (29, true, 122), (30, false, 1), (31, false, 1), (32, true, 122), (34, false, 1), (35, false, 1), (36, false, 1), (37, false, 1), (38, false, 1), (39, false, 1), (40, false, 1), (41, false, 1), (43, false, 1), (44, false, 1), (45, false, 1), (46, false, 1), (47, false, 1), (48, true, 2), (49, true, 2), (51, false, 1), (52, true, 2), (53, false, 1), (54, false, 1), (55, false, 1), (57, false, 1), (58, false, 1), (59, false, 1), (60, false, 1), (61, false, 1), (62, false, 1), (63, false, 1), (64, false, 1), (65, true, 3), (66, true, 3), (67, false, 1), (68, false, 1), (69, false, 1), (70, false, 1), (71, false, 1), (72, false, 1), (73, false, 1), (74, false, 1), (75, false, 1), (76, false, 1), (77, true, 100), (78, false, 1), (79, false, 1), (80, false, 1), (81, false, 1), (82, false, 1), (83, false, 1), (84, false, 1), (85, false, 1), (86, false, 1), (87, true, 4), (88, true, 4), (89, true, 10), (90, true, 100), (91, false, 1), (92, false, 1), (93, false, 1), (94, false, 1), (95, false, 1), (96, false, 1), (97, false, 1), (98, false, 1), (99, false, 1), (100, false, 1), (101, false, 1), (102, false, 1), (103, false, 1), (104, false, 1), (105, false, 1), (106, false, 1), (107, false, 1), (108, false, 1), (109, false, 1), (110, false, 1), (111, false, 1), (113, false, 1), (114, false, 1), (115, false, 1), (116, false, 1), (117, false, 1), (118, false, 1), (119, false, 1), (120, false, 1), (121, false, 1), (122, false, 1), (123, false, 1), (124, false, 1), (125, false, 1), (126, false, 1), (127, true, 10), (128, true, 100), (129, false, 1), (130, false, 1), (131, false, 1), (132, false, 1), (133, false, 1), (134, false, 1), (135, false, 1), (136, false, 1), (137, false, 1), (138, false, 1), (139, false, 1), (140, false, 1), (141, false, 1), (142, false, 1), (143, false, 1), (144, false, 1), (145, false, 1), (146, false, 1), (147, false, 1), (148, false, 1), (151, false, 1), (152, false, 1), (153, false, 1), (155, false, 1), (156, false, 1), (157, false, 1), (158, false, 1), (159, false, 1), (160, false, 1), (161, false, 1), (162, false, 1), (163, false, 1), (164, false, 1), (165, false, 1), (167, false, 1), (168, false, 1), (169, false, 1), (170, false, 1), (171, false, 1), (172, false, 1), (173, false, 1), (174, false, 1), (176, false, 1), (177, false, 1), (178, false, 1), (184, false, 1), (187, false, 1), (188, false, 1), (193, false, 1), (194, false, 1)]
def tK : List (Nat × IntKind) := [(2, .i64), (3, .i64), (5, .u8), (12, .u64), (21, .i32), (22, .i8), (23, .i16), (26, .u16), (115, .u64), (157, .u32), (159, .u64)]
theorem tF_ok : tF.all (chkF Try.prog) = true := by kernel_rfl
theorem tA_ok : tA.all (chkA Try.prog) = true := by kernel_rfl
theorem tL_ok : tL.all (chkL Try.prog) = true := by kernel_rfl
theorem tS_ok : tS.all (chkS Try.prog) = true := by kernel_rfl
theorem tK_ok : tK.all (chkK Try.prog) = true := by kernel_rfl
def tb : Tb Try.prog := ⟨tF, tA, tL, tS, tK, tF_ok, tA_ok, tL_ok, tS_ok, tK_ok⟩
end Go.Proofs.Ytnafnhpajkhgkaa
/- Plain words: arrays of numbers, spots, pastures as cells. No condition. -/
namespace Go.Proofs.Ytnafnhpajkhgkaa
set_option linter.unusedVariables false
set_option linter.unusedSimpArgs false
open Go.RowKit Mem

theorem min2_int (k k' : IntKind) (x y : Int) : Builtin.min2 (.int k x) (.int k' y) = pure (.int k (min x y)) := by
  simp only [Builtin.min2]; congr 2; omega
theorem min_two (ats : Array TypeId) (ty : TypeId) (a b : Value) : Builtin.min_ ats ty #[a, b] = (Builtin.min2 a b >>= fun s => pure s) := by simp only [Builtin.min_, List.foldlM_cons, List.foldlM_nil]
/-- n cells, each a number of this kind -/
def IntsOf (k : IntKind) (n : Nat) (cs : Array Value) : Prop := cs.size = n ∧ ∀ j, j < n → ∃ x, cs[j]? = some (.int k x)
theorem IntsOf.one {k : IntKind} {n : Nat} {cs : Array Value} (h : IntsOf k n cs) : ∀ v ∈ cs.toList, v.oneCell' = true := by
  intro v hv
  obtain ⟨j, hj, rfl⟩ := List.mem_iff_getElem.1 hv
  obtain ⟨x, hx⟩ := h.2 j (by simpa [h.1] using hj)
  have : cs.toList[j] = .int k x := by
    have h2 : cs.toList[j]? = some (.int k x) := by simpa using hx
    exact (List.getElem?_eq_some_iff.1 h2).2
  rw [this]; rfl
theorem IntsOf.part {k : IntKind} {n : Nat} {cs : Array Value} (h : IntsOf k n cs) (off m : Nat) (hm : off + m ≤ n) : IntsOf k m (cs.extract off (off + m)) := by
  refine ⟨by have := h.1; simp; omega, fun j hj => ?_⟩
  obtain ⟨x, hx⟩ := h.2 (off + j) (by omega)
  refine ⟨x, ?_⟩
  rw [Array.getElem?_extract, if_pos (by have := h.1; omega)]
  exact hx
theorem arr_ext {n : Nat} {a b : Array Value} (ha : a.size = n) (hb : b.size = n) (h : ∀ j, j < n → a[j]? = b[j]?) : a = b := by
  apply Array.ext_getElem?
  intro j
  by_cases hj : j < n
  · exact h j hj
  · rw [Array.getElem?_eq_none (by omega), Array.getElem?_eq_none (by omega)]
theorem set_prefix {k : Nat} {o cs : Array Value} {v : Value} (hfit : k < o.size) (hv : cs[k]? = some v) (HP : ∀ j, j < k → o[j]? = cs[j]?) : ∀ j, j < k + 1 → (o.setIfInBounds k v)[j]? = cs[j]? := fun j hj => by
  by_cases e : j = k
  · subst e; simp [hfit, hv]
  · rw [Array.getElem?_setIfInBounds_ne (by omega)]; exact HP j (by omega)
theorem splice_prefix {k m : Nat} {o cs : Array Value} (hfit : k * m + m ≤ o.size) (hcs : k * m + m ≤ cs.size) (HP : ∀ j, j < k * m → o[j]? = cs[j]?) : ∀ j, j < (k + 1) * m → (splice o (k * m) (cs.extract (k * m) (k * m + m)))[j]? = cs[j]? := fun j hj => by
  have e1 : (k + 1) * m = k * m + m := Nat.succ_mul k m
  have hs : (cs.extract (k * m) (k * m + m)).size = m := by simp; omega
  rw [splice_get _ _ _ (by rw [hs]; exact hfit), hs]
  by_cases e : k * m ≤ j
  · rw [if_pos ⟨e, by omega⟩, Array.getElem?_extract, if_pos (by omega)]
    congr 1
    omega
  · rw [if_neg (by omega)]; exact HP j (by omega)

/-- n zeros of a kind -/
def zr (k : IntKind) (n : Nat) : Array Value := Array.replicate n (.int k 0)
theorem zr_size (k : IntKind) (n : Nat) : (zr k n).size = n := by simp [zr]
/-- the kind of a pasture's cell -/
def pk (i : Nat) : IntKind := if i < 2 then .i8 else if i < 102 then .i16 else .u16
/-- a pasture's cells: Wide, High, 100 of grass, 10 of east, 10 of south -/
structure Pv (p : Nat → Int) (cs : Array Value) : Prop where
  size : cs.size = 122
  get : ∀ i, i < 122 → cs[i]? = some (.int (pk i) (p i))
  i8 : ∀ i, i < 2 → -128 ≤ p i ∧ p i ≤ 127
  i16 : ∀ i, 2 ≤ i → i < 102 → -32768 ≤ p i ∧ p i ≤ 32767
  u16 : ∀ i, 102 ≤ i → i < 122 → 0 ≤ p i ∧ p i ≤ 65535
theorem Pv.one {p : Nat → Int} {cs : Array Value} (h : Pv p cs) : ∀ v ∈ cs.toList, v.oneCell' = true := by
  intro v hv
  obtain ⟨j, hj, rfl⟩ := List.mem_iff_getElem.1 hv
  have hj' : j < 122 := by simpa [h.size] using hj
  have h2 : cs.toList[j]? = some (.int (pk j) (p j)) := by simpa using h.get j hj'
  rw [(List.getElem?_eq_some_iff.1 h2).2]; rfl
theorem Pv.g0 {p : Nat → Int} {cs : Array Value} (h : Pv p cs) : cs[0]? = some (.int .i8 (p 0)) := h.get 0 (by omega)
theorem Pv.g1 {p : Nat → Int} {cs : Array Value} (h : Pv p cs) : cs[1]? = some (.int .i8 (p 1)) := h.get 1 (by omega)
theorem Pv.grass {p : Nat → Int} {cs : Array Value} (h : Pv p cs) (i : Nat) (h1 : 2 ≤ i) (h2 : i < 102) : cs[i]? = some (.int .i16 (p i)) := by
  have := h.get i (by omega)
  unfold pk at this
  rwa [if_neg (by omega), if_pos h2] at this
theorem Pv.side {p : Nat → Int} {cs : Array Value} (h : Pv p cs) (i : Nat) (h1 : 102 ≤ i) (h2 : i < 122) : cs[i]? = some (.int .u16 (p i)) := by
  have := h.get i h2
  unfold pk at this
  rwa [if_neg (by omega), if_neg (by omega)] at this
theorem Pv.ints16 {p : Nat → Int} {cs : Array Value} (h : Pv p cs) : IntsOf .i16 100 (cs.extract 2 102) := by
  refine ⟨by have := h.size; simp; omega, fun j hj => ⟨p (2 + j), ?_⟩⟩
  rw [Array.getElem?_extract, if_pos (by have := h.size; omega)]
  exact h.grass _ (by omega) (by omega)
theorem Pv.intsE {p : Nat → Int} {cs : Array Value} (h : Pv p cs) : IntsOf .u16 10 (cs.extract 102 112) := by
  refine ⟨by have := h.size; simp; omega, fun j hj => ⟨p (102 + j), ?_⟩⟩
  rw [Array.getElem?_extract, if_pos (by have := h.size; omega)]
  exact h.side _ (by omega) (by omega)
theorem Pv.intsS {p : Nat → Int} {cs : Array Value} (h : Pv p cs) : IntsOf .u16 10 (cs.extract 112 122) := by
  refine ⟨by have := h.size; simp; omega, fun j hj => ⟨p (112 + j), ?_⟩⟩
  rw [Array.getElem?_extract, if_pos (by have := h.size; omega)]
  exact h.side _ (by omega) (by omega)
/-- the cells of the zero pasture -/
def zP : Array Value := ((List.replicate 2 (Value.int .i8 0)) ++ List.replicate 100 (Value.int .i16 0) ++ List.replicate 20 (Value.int .u16 0)).toArray
theorem zP_pv : Pv (fun _ => 0) zP := by
  refine ⟨rfl, fun i hi => ?_, fun _ _ => by omega, fun _ _ _ => by omega, fun _ _ _ => by omega⟩
  simp only [zP, pk, List.getElem?_toArray, List.append_assoc]
  by_cases h1 : i < 2
  · rw [List.getElem?_append_left (by simpa using h1), if_pos h1, List.getElem?_replicate, if_pos h1]
  · rw [List.getElem?_append_right (by simp; omega), if_neg h1, List.length_replicate]
    by_cases h2 : i < 102
    · rw [List.getElem?_append_left (by simp; omega), if_pos h2, List.getElem?_replicate, if_pos (by omega)]
    · rw [List.getElem?_append_right (by simp; omega), if_neg h2, List.length_replicate, List.getElem?_replicate, if_pos (by omega)]
theorem Pv.ext {p q : Nat → Int} {cs ds : Array Value} (h : Pv p cs) (h' : Pv q ds) (he : ∀ i, i < 122 → p i = q i) : cs = ds :=
  arr_ext h.size h'.size fun j hj => by rw [h.get j hj, h'.get j hj, he j hj]
end Go.Proofs.Ytnafnhpajkhgkaa
