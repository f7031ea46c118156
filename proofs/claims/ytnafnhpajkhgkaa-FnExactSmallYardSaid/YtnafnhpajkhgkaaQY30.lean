import Derived.Test.YtnafnhpajkhgkaaQY10
import Derived.Test.YtnafnhpajkhgkaaQY21
/- What the library's contract of SortFunc says, at a slice of structs that the walk keeps. No condition. -/
namespace Go.Proofs.Ytnafnhpajkhgkaa
set_option linter.unusedVariables false
set_option linter.unusedSimpArgs false
open Go.RowKit Mem Wk Go.Sort

/-- cells, and sides of cells, of the grid of 10 by 10 -/
abbrev SpR := {s : Sp // inR s}
abbrev HdR := {h : Hd // hdI h}
instance : Inhabited SpR := ⟨⟨⟨0, 0⟩, by unfold inR; simp⟩⟩
instance : Inhabited HdR := ⟨⟨⟨0, 0, false⟩, by unfold hdI; simp⟩⟩
def encS (s : SpR) : List Value := s.val.cells
def encH (h : HdR) : List Value := h.val.cells
def cfS (a b : SpR) : Int := cmS a.val b.val
def cfH (a b : HdR) : Int := cmH a.val b.val
theorem swoSR : SWO (ltOf cfS) := ⟨fun x => swoS.irrefl x.val, fun x y z => swoS.trans x.val y.val z.val, fun x y z => swoS.ntrans x.val y.val z.val⟩
theorem swoHR : SWO (ltOf cfH) := ⟨fun x => swoH.irrefl x.val, fun x y z => swoH.trans x.val y.val z.val, fun x y z => swoH.ntrans x.val y.val z.val⟩
theorem ap_get {α : Type} [Inhabited α] {enc : α → List Value} {k : Nat} (hk : ∀ x, (enc x).length = k) {L : List α} {n cap : Nat} {cur : Array Value} (hA : Ap k n cap cur (L.map enc).flatten) {j : Nat} (hj : j < L.length * k) : cur[j]? = some (enc L.toArray[j / k]!)[j % k]! := by
  have hk0 : 0 < k := by rcases Nat.eq_zero_or_pos k with h | h; · subst h; simp at hj
                         · exact h
  have hi : j / k < L.length := (Nat.div_lt_iff_lt_mul hk0).2 hj
  have hm := Nat.mod_lt j hk0
  have hx : (L.map enc)[j / k]? = some (enc L[j / k]) := by simp [hi]
  have h := hA.elem (fun c hc => by obtain ⟨s, _, rfl⟩ := List.mem_map.1 hc; exact hk s) hx (j % k) hm
  rw [Nat.div_add_mod' j k] at h
  rw [h, getElem!_pos L.toArray (j / k) (by simpa using hi), getElem!_pos (enc _) (j % k) (by rw [hk]; exact hm), List.getElem?_eq_getElem (by rw [hk]; exact hm)]
  simp
theorem holdsK_ap {α : Type} [Inhabited α] {enc : α → List Value} {k : Nat} (hk : ∀ x, (enc x).length = k) {L : List α} {n cap g : Nat} {T : TypeId} {cur : Array Value} {w : World} (hA : Ap k n cap cur (L.map enc).flatten) (hg : w.heap[g]? = some (.cells cur T (0, 0))) : HoldsK enc k w g 0 L.toArray := by
  intro j hj
  rw [size_flatK] at hj
  simp only [List.size_toArray] at hj
  have h := ap_get hk hA hj
  constructor
  · unfold World.cell?
    simp only [hg, Nat.zero_add, Option.isSome_none, if_false, Bool.false_eq_true]
    rw [h, get_flatK _ _ _ _ (by simpa using hj)]; rfl
  · unfold World.frozen?
    simp [hg]
theorem sort_upd {α : Type} [Inhabited α] {enc : α → List Value} {k : Nat} (hk : ∀ x, (enc x).length = k) (hk0 : 0 < k) {L : List α} {n cap g q : Nat} {T : TypeId} {cur : Array Value} {w : World} {d' : Array α} {os : Array Obj} (hA : Ap k n cap cur (L.map enc).flatten) (hg : w.heap[g]? = some (.cells cur T (0, 0))) (hs : d'.size = L.length) :
    ∃ cs', Ap k n cap cs' (d'.toList.map enc).flatten ∧ Upd w (sortWorldK enc k w g 0 q d' os) g T cs' := by
  have hl : ∀ c ∈ L.map enc, c.length = k := fun c hc => by obtain ⟨s, _, rfl⟩ := List.mem_map.1 hc; exact hk s
  have hl' : ∀ c ∈ d'.toList.map enc, c.length = k := fun c hc => by obtain ⟨s, _, rfl⟩ := List.mem_map.1 hc; exact hk s
  have hn : n = L.length := by simpa using hA.count hl hk0
  have hlt : g < w.heap.size := (Array.getElem?_eq_some_iff.1 hg).1
  have hcap := hA.size
  have hle : L.length * k ≤ cap * k := Nat.mul_le_mul_right k (hn ▸ hA.le)
  refine ⟨putCells id 0 (Go.Sort.flatK enc k d') cur, ?_, ?_⟩
  · have hP : Pt k (putCells id 0 (Go.Sort.flatK enc k d') cur) (d'.toList.map enc) (d'.toList.map enc).length := fun i c hi hc j hj => by
      rw [List.length_map, Array.length_toList] at hi
      have hb : i * k + j < d'.size * k := by
        have := Nat.mul_le_mul_right k (show i + 1 ≤ d'.size from hi); rw [Nat.add_mul, Nat.one_mul] at this; omega
      have hbc : i * k + j < cur.size := by rw [hcap]; rw [hs] at hb; omega
      rw [List.getElem?_map] at hc
      obtain ⟨s, hsx, rfl⟩ := Option.map_eq_some_iff.1 hc
      have e1 : (i * k + j) / k = i := (blk_iff k i _ hk0).1 ⟨by omega, by omega⟩
      have e2 : (i * k + j) % k = j := by rw [Nat.mod_eq_sub_div_mul, e1]; omega
      unfold putCells
      rw [Array.getElem?_mapIdx, Array.getElem?_eq_getElem hbc, Option.map_some, if_pos ⟨Nat.zero_le _, by rw [size_flatK]; omega⟩, Nat.sub_zero, get_flatK _ _ _ _ hb, e1, e2]
      have hsd : d'[i]! = s := by
        rw [getElem!_pos d' i hi]
        rw [List.getElem?_eq_getElem (by simpa using hi)] at hsx
        simpa using hsx
      rw [hsd, List.getElem?_eq_getElem (by rw [hk]; exact hj), getElem!_pos (enc s) j (by rw [hk]; exact hj)]
      rfl
    have h := Pt.ap (cap := cap) hP hl' (by unfold putCells; simp [hcap]) (by rw [List.length_map, Array.length_toList, hs, ← hn]; exact hA.le) hA.max
    rw [List.length_map, Array.length_toList, hs, ← hn] at h
    exact h
  · have hsz : (mapBlock (Sort.ahead w q) g (putCells id 0 (Go.Sort.flatK enc k d'))).heap.size = w.heap.size := by
      unfold mapBlock; simp [Sort.ahead]
    refine ⟨rfl, rfl, rfl, ?_, fun j hj hne => ?_, ?_⟩
    · show w.heap.size ≤ (((mapBlock (Sort.ahead w q) g (putCells id 0 (Go.Sort.flatK enc k d'))).heap ++ os)).size
      rw [Array.size_append, hsz]; omega
    · show ((mapBlock (Sort.ahead w q) g (putCells id 0 (Go.Sort.flatK enc k d'))).heap ++ os)[j]? = _
      rw [Array.getElem?_append_left (by rw [hsz]; exact hj)]
      unfold mapBlock
      simp only [Array.getElem?_modify]
      rw [if_neg (fun e => hne e.symm)]; rfl
    · show ((mapBlock (Sort.ahead w q) g (putCells id 0 (Go.Sort.flatK enc k d'))).heap ++ os)[g]? = _
      rw [Array.getElem?_append_left (by rw [hsz]; exact hlt)]
      unfold mapBlock
      simp only [Array.getElem?_modify, if_true]
      show (w.heap[g]?).map _ = _
      rw [hg]; rfl
/-- What the sort leaves: the same elements, in order, in the same block. -/
def SortP {β : Type} (T : TypeId) (cel : β → List Value) (lt : β → β → Bool) (k n cap g : Nat) (L : List β) (w : World) (e : Ending) (w' : World) : Prop :=
  e = .returned (.tuple #[]) ∧ ∃ (M : List β) (cs' : Array Value), M.Perm L ∧ (M.Pairwise fun a b => lt b a = false) ∧ Ap k n cap cs' (M.map cel).flatten ∧ Upd w w' g T cs'
theorem sort_post {β : Type} {p : β → Prop} [Inhabited {x // p x}] {cel : β → List Value} {k : Nat} (hk : ∀ x, (cel x).length = k) (hk0 : 0 < k) {lt : β → β → Bool} {lts : {x // p x} → {x // p x} → Bool} (hlt : ∀ a b, lts a b = lt a.val b.val) {L : List β} {Ls : List {x // p x}} (hLs : Ls.map (·.val) = L) {n cap g : Nat} {T : TypeId} {cur : Array Value} {w w' : World} {e : Ending} (hA : Ap k n cap cur (L.map cel).flatten) (hg : w.heap[g]? = some (.cells cur T (0, 0)))
    (h : e = .returned (.tuple #[]) ∧ ∃ d' q os, PermIn 0 Ls.toArray.size Ls.toArray d' ∧ SortedIn lts 0 Ls.toArray.size d' ∧ w' = sortWorldK (fun x => cel x.val) k w g 0 q d' os) : SortP T cel lt k n cap g L w e w' := by
  obtain ⟨he, d', q, os, hp, hs, rfl⟩ := h
  subst hLs
  have hA' : Ap k n cap cur (Ls.map fun x => cel x.val).flatten := by rw [List.map_map] at hA; exact hA
  have hsz : d'.size = Ls.length := by have := hp.1; simpa using this
  obtain ⟨cs', h1, h2⟩ := sort_upd (enc := fun x : {x // p x} => cel x.val) (q := q) (d' := d') (os := os) (fun x => hk x.val) hk0 hA' hg hsz
  refine ⟨he, d'.toList.map (·.val), cs', ?_, ?_, ?_, h2⟩
  · have := perm_list hp
    simpa using this.map (·.val)
  · rw [List.pairwise_map]
    refine (sorted_list (by simpa using hsz) hs).imp fun {a b} h => ?_
    rw [← hlt]; exact h
  · rw [List.map_map]; exact h1
theorem attach_val {β : Type} {p : β → Prop} (L : List β) (h : ∀ x ∈ L, p x) : (L.attachWith p h).map (·.val) = L := by simp
end Go.Proofs.Ytnafnhpajkhgkaa
/- The comparisons of cells and of hurdles, for the library's sort: they draw and make blocks, and change nothing. No condition. -/
namespace Go.Proofs.Ytnafnhpajkhgkaa
set_option linter.unusedVariables false
set_option linter.unusedSimpArgs false
open Go.RowKit Mem Wk Go.Sort
attribute [local irreducible] Calm.wpLex
set_option maxRecDepth 100000 in
set_option maxHeartbeats 1000000 in
theorem cmpS_grow (x y : SpR) (W : World) :
    Calls Try.prog 54 #[.agg (encS x).toArray, .agg (encS y).toArray] W fun e w' => e = .returned (.int .i64 (cfS x y)) ∧ ∃ q os', w' = grow (W.drewN q) os' := by
  obtain ⟨⟨x1, y1⟩, h1⟩ := x
  obtain ⟨⟨x2, y2⟩, h2⟩ := y
  unfold inR at h1 h2
  simp only at h1 h2
  show Calls Try.prog 54 #[.agg #[.int .i8 x1, .int .i8 y1], .agg #[.int .i8 x2, .int .i8 y2]] W fun e w' => e = .returned (.int .i64 (if y1 = y2 then x1 - x2 else y1 - y2)) ∧ ∃ q os', w' = grow (W.drewN q) os'
  have r1 : IntKind.i64.wrap x1 = x1 := wrap_in (by simp only [lo, hi]; omega)
  have r2 : IntKind.i64.wrap x2 = x2 := wrap_in (by simp only [lo, hi]; omega)
  have r3 : IntKind.i64.wrap y1 = y1 := wrap_in (by simp only [lo, hi]; omega)
  have r4 : IntKind.i64.wrap y2 = y2 := wrap_in (by simp only [lo, hi]; omega)
  have r5 : IntKind.i64.wrap (x1 - x2) = x1 - x2 := wrap_in (by simp only [lo, hi]; omega)
  have r6 : IntKind.i64.wrap (y1 - y2) = y1 - y2 := wrap_in (by simp only [lo, hi]; omega)
  by_cases hy : y1 = y2
  · subst hy
    rw [if_pos rfl]
    go_enter Try.func54, Try.ntmps54
    go_wp2
    go_ret
    exact ⟨by simp [r1, r2, r5], 0, _, by rw [alloc_eq_grow, alloc_eq_grow, grow_grow]; rfl⟩
  · rw [if_neg hy]
    go_enter Try.func54, Try.ntmps54
    go_wp2
    go_ret
    exact ⟨by simp [r3, r4, r6], 0, _, by rw [alloc_eq_grow, alloc_eq_grow, grow_grow]; rfl⟩
end Go.Proofs.Ytnafnhpajkhgkaa
