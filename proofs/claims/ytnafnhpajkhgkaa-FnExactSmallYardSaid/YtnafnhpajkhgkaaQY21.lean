import Derived.Shelf.SlSortCmp.WholeK
import Derived.Test.YtnafnhpajkhgkaaQY19
import Derived.Test.YtnafnhpajkhgkaaQY20
/- Cells and hurdles in order, each once: in plain Lean. No condition. -/
namespace Go.Proofs.Ytnafnhpajkhgkaa
set_option linter.unusedVariables false
set_option linter.unusedSimpArgs false
open Go.Sort

/-! ## lists in a strict order are told by their members -/
theorem strict_eq {α : Type} {R : α → α → Prop} (hir : ∀ a, ¬ R a a) (has : ∀ a b, R a b → ¬ R b a) : ∀ {l m : List α}, l.Pairwise R → m.Pairwise R → (∀ x, x ∈ l ↔ x ∈ m) → l = m
  | [], [], _, _, _ => rfl
  | [], b :: m, _, _, h => by have := (h b).2 (by simp); simp at this
  | a :: l, [], _, _, h => by have := (h a).1 (by simp); simp at this
  | a :: l, b :: m, hl, hm, h => by
    rw [List.pairwise_cons] at hl hm
    have hab : a = b := by
      have h1 := (h a).1 (by simp)
      have h2 := (h b).2 (by simp)
      rw [List.mem_cons] at h1 h2
      rcases h1 with h1 | h1
      · exact h1
      · rcases h2 with h2 | h2
        · exact h2.symm
        · exact absurd (hl.1 b h2) (has _ _ (hm.1 a h1))
    subst hab
    rw [strict_eq hir has hl.2 hm.2 fun x => ⟨fun hx => ?_, fun hx => ?_⟩]
    · have h1 := (h x).1 (by simp [hx])
      rw [List.mem_cons] at h1
      rcases h1 with h1 | h1
      · subst h1; exact absurd (hl.1 x hx) (hir x)
      · exact h1
    · have h1 := (h x).2 (by simp [hx])
      rw [List.mem_cons] at h1
      rcases h1 with h1 | h1
      · subst h1; exact absurd (hm.1 x hx) (hir x)
      · exact h1

/-! ## the order of cells -/
def ltS (a b : Sp) : Prop := a.y < b.y ∨ (a.y = b.y ∧ a.x < b.x)
def cmS (a b : Sp) : Int := if a.y = b.y then a.x - b.x else a.y - b.y
theorem ltOf_cmS (a b : Sp) : ltOf cmS a b = true ↔ ltS a b := by
  unfold ltOf cmS ltS; rw [decide_eq_true_iff]; split <;> omega
theorem ltOf_cmS0 (a b : Sp) : ltOf cmS a b = false ↔ ¬ ltS a b := by
  rw [← ltOf_cmS]; cases ltOf cmS a b <;> simp
theorem swoS : SWO (ltOf cmS) where
  irrefl x := by rw [ltOf_cmS0]; unfold ltS; omega
  trans x y z h1 h2 := by rw [ltOf_cmS] at *; unfold ltS at *; omega
  ntrans x y z h1 h2 := by rw [ltOf_cmS0] at *; unfold ltS at *; omega
theorem ltS_ir (a : Sp) : ¬ ltS a a := by unfold ltS; omega
theorem ltS_as (a b : Sp) (h : ltS a b) : ¬ ltS b a := by unfold ltS at *; omega
theorem ltS_ne {a b : Sp} (h : ¬ ltS a b) (hne : a ≠ b) : ltS b a := by
  obtain ⟨x, y⟩ := a; obtain ⟨u, v⟩ := b
  unfold ltS at *; simp only at *
  by_cases h1 : y = v
  · subst h1
    have : x ≠ u := fun e => hne (by rw [e])
    omega
  · omega
theorem ltS_tr {a b c : Sp} (h : ltS a b) (h' : ltS b c) : ltS a c := by unfold ltS at *; omega
theorem leS_tr {a b c : Sp} (h : ¬ ltS b a) (h' : ltS b c) : ltS a c := by unfold ltS at *; omega

/-! ## the order of hurdles -/
def ltHd (a b : Hd) : Prop := a.y < b.y ∨ (a.y = b.y ∧ (a.x < b.x ∨ (a.x = b.x ∧ a.s = false ∧ b.s = true)))
def cmH (a b : Hd) : Int := if a.y = b.y then (if a.x = b.x then (if a.s = b.s then 0 else if a.s then 1 else -1) else a.x - b.x) else a.y - b.y
theorem ltOf_cmH (a b : Hd) : ltOf cmH a b = true ↔ ltHd a b := by
  unfold ltOf cmH ltHd
  rw [decide_eq_true_iff]
  by_cases h1 : a.y = b.y
  · by_cases h2 : a.x = b.x
    · cases ha : a.s <;> cases hb : b.s <;> simp [h1, h2]
    · simp [h1, h2]; omega
  · simp [h1]; omega
theorem ltOf_cmH0 (a b : Hd) : ltOf cmH a b = false ↔ ¬ ltHd a b := by
  rw [← ltOf_cmH]; cases ltOf cmH a b <;> simp
theorem ltHd_ir (a : Hd) : ¬ ltHd a a := by unfold ltHd; cases a.s <;> simp <;> omega
theorem ltHd_as (a b : Hd) (h : ltHd a b) : ¬ ltHd b a := by
  unfold ltHd at *
  cases ha : a.s <;> cases hb : b.s <;> simp [ha, hb] at * <;> omega
theorem ltHd_ne {a b : Hd} (h : ¬ ltHd a b) (hne : a ≠ b) : ltHd b a := by
  obtain ⟨x, y, s⟩ := a; obtain ⟨u, v, t⟩ := b
  unfold ltHd at *; simp only at *
  by_cases h1 : y = v
  · subst h1
    by_cases h2 : x = u
    · subst h2
      have : s ≠ t := fun e => hne (by rw [e])
      cases s <;> cases t <;> simp at *
    · cases s <;> cases t <;> simp at * <;> omega
  · cases s <;> cases t <;> simp at * <;> omega
theorem swoH : SWO (ltOf cmH) where
  irrefl x := by rw [ltOf_cmH0]; exact ltHd_ir x
  trans x y z h1 h2 := by
    rw [ltOf_cmH] at *; unfold ltHd at *
    cases hx : x.s <;> cases hy : y.s <;> cases hz : z.s <;> simp [hx, hy, hz] at * <;> omega
  ntrans x y z h1 h2 := by
    rw [ltOf_cmH0] at *; unfold ltHd at *
    cases hx : x.s <;> cases hy : y.s <;> cases hz : z.s <;> simp [hx, hy, hz] at * <;> omega

/-! ## what the sort's contract says, at lists -/
theorem sorted_list {α : Type} [Inhabited α] {lt : α → α → Bool} {d : Array α} {n : Nat} (hn : d.size = n) (h : SortedIn lt 0 n d) : d.toList.Pairwise fun a b => lt b a = false := by
  rw [List.pairwise_iff_getElem]
  intro i j hi hj hij
  have h1 := h i j (Nat.zero_le _) hij (by simp at hj; omega)
  rw [getElem!_pos d i (by simpa using hi), getElem!_pos d j (by simpa using hj)] at h1
  simpa using h1
theorem perm_list {α : Type} [Inhabited α] {d d' : Array α} (h : PermIn 0 d.size d d') : d'.toList.Perm d.toList := by
  have h1 := h.2.2
  rw [← h.1] at h1
  conv at h1 => rhs; rw [h.1]
  simpa using h1

/-! ## each cell once -/
def cpF (l : List Sp) : List Sp := l.foldl (fun o a => if o.getLast? = some a then o else o ++ [a]) []
theorem cpF_snoc (l : List Sp) (a : Sp) : cpF (l ++ [a]) = if (cpF l).getLast? = some a then cpF l else cpF l ++ [a] := by unfold cpF; rw [List.foldl_append]; rfl
theorem cpF_last (l : List Sp) : (cpF l).getLast? = l.getLast? := by
  rcases List.eq_nil_or_concat l with rfl | ⟨m, a, rfl⟩
  · rfl
  · rw [List.concat_eq_append, cpF_snoc]
    split
    · rename_i h; rw [h]; simp
    · simp
theorem cpF_mem : ∀ (m : Nat) (l : List Sp), l.length = m → ∀ x, x ∈ cpF l ↔ x ∈ l
  | 0, l, h, x => by rw [List.length_eq_zero_iff.1 h]; rfl
  | m + 1, l, h, x => by
    rcases List.eq_nil_or_concat l with rfl | ⟨k, a, rfl⟩
    · rfl
    · rw [List.concat_eq_append] at h ⊢
      have ih := cpF_mem m k (by simpa using h)
      rw [cpF_snoc]
      split
      · rename_i hl
        rw [List.mem_append, ih, List.mem_singleton]
        refine ⟨Or.inl, fun hx => hx.elim id fun e => ?_⟩
        subst e
        exact (ih x).1 (List.mem_of_getLast? hl)
      · rw [List.mem_append, List.mem_append, ih]
theorem cpF_len (l : List Sp) : (cpF l).length ≤ l.length := by
  suffices h : ∀ (m : Nat) (l : List Sp), l.length = m → (cpF l).length ≤ m by exact h _ _ rfl
  intro m
  induction m with
  | zero => intro l h; rw [List.length_eq_zero_iff.1 h]; simp [cpF]
  | succ m ih =>
    intro l h
    rcases List.eq_nil_or_concat l with rfl | ⟨k, a, rfl⟩
    · simp [cpF]
    · rw [List.concat_eq_append] at h ⊢
      have := ih k (by simpa using h)
      rw [cpF_snoc]; split <;> simp <;> omega
theorem cpF_strict : ∀ (m : Nat) (l : List Sp), l.length = m → (l.Pairwise fun a b => ¬ ltS b a) → (cpF l).Pairwise ltS
  | 0, l, h, _ => by rw [List.length_eq_zero_iff.1 h]; exact List.Pairwise.nil
  | m + 1, l, h, hs => by
    rcases List.eq_nil_or_concat l with rfl | ⟨k, a, rfl⟩
    · exact List.Pairwise.nil
    · rw [List.concat_eq_append] at h hs ⊢
      rw [List.pairwise_append] at hs
      obtain ⟨hk, _, hka⟩ := hs
      have ih := cpF_strict m k (by simpa using h) hk
      rw [cpF_snoc]
      split
      · exact ih
      · rename_i hl
        rw [List.pairwise_append]
        refine ⟨ih, by simp, fun x hx b hb => ?_⟩
        rw [List.mem_singleton] at hb
        subst hb
        rw [cpF_last] at hl
        have hxk := (cpF_mem _ k rfl x).1 hx
        rcases List.eq_nil_or_concat k with rfl | ⟨j, c, rfl⟩
        · simp at hxk
        · rw [List.concat_eq_append] at *
          have hca : c ≠ b := fun e => hl (by simp [e])
          have hcb := ltS_ne (hka c (by simp) b (by simp)) (fun e => hca e.symm)
          rw [List.mem_append, List.mem_singleton] at hxk
          rcases hxk with hxj | rfl
          · exact leS_tr ((List.pairwise_append.1 hk).2.2 x hxj c (by simp)) hcb
          · exact hcb
theorem cpF_at {l : List Sp} {j : Nat} {r s : Sp} (h0 : l[j]? = some r) (h1 : l[j + 1]? = some s) : cpF (l.take (j + 2)) = if s = r then cpF (l.take (j + 1)) else cpF (l.take (j + 1)) ++ [s] := by
  have e : l.take (j + 2) = l.take (j + 1) ++ [s] := by rw [List.take_add_one, h1]; rfl
  have hl : (l.take (j + 1)).getLast? = some r := by rw [List.take_add_one, h0]; simp
  rw [e, cpF_snoc, cpF_last, hl]
  by_cases h : s = r
  · subst h; simp
  · rw [if_neg (fun e => h (Option.some.inj e).symm), if_neg h]
theorem cpF_prefix : ∀ (m l : List Sp), ∃ t, cpF (l ++ m) = cpF l ++ t
  | [], l => ⟨[], by simp⟩
  | a :: m, l => by
    obtain ⟨t, ht⟩ := cpF_prefix m (l ++ [a])
    rw [List.append_assoc, List.singleton_append] at ht
    rw [ht, cpF_snoc]
    split
    · exact ⟨t, rfl⟩
    · exact ⟨a :: t, by simp⟩
theorem cpF_kept {l : List Sp} {j : Nat} {r s : Sp} (h0 : l[j]? = some r) (h1 : l[j + 1]? = some s) (hne : s ≠ r) : (cpF l)[(cpF (l.take (j + 1))).length]? = some s := by
  obtain ⟨t, ht⟩ := cpF_prefix (l.drop (j + 2)) (l.take (j + 2))
  rw [List.take_append_drop, cpF_at h0 h1, if_neg hne] at ht
  rw [ht, List.append_assoc, List.getElem?_append_right (Nat.le_refl _), Nat.sub_self]; rfl
theorem cpF_clean {l : List Sp} : ∀ {k : Nat}, (∀ j r s, j + 1 < k → l[j]? = some r → l[j + 1]? = some s → s ≠ r) → cpF (l.take k) = l.take k
  | 0, _ => by simp [cpF]
  | 1, _ => by
    cases l with
    | nil => rfl
    | cons a l => rfl
  | k + 2, h => by
    have ih := cpF_clean (l := l) (k := k + 1) fun j r s hj => h j r s (by omega)
    cases h1 : l[k + 1]? with
    | none => rw [List.take_add_one, h1]; simpa using ih
    | some s =>
      obtain ⟨r, h0⟩ : ∃ r, l[k]? = some r := ⟨_, List.getElem?_eq_getElem (by have := (List.getElem?_eq_some_iff.1 h1).1; omega)⟩
      rw [cpF_at h0 h1, if_neg (h k r s (by omega) h0 h1), ih]
      rw [List.take_add_one (i := k + 1), h1]; rfl
/-- the cells of a list, in order, each once -/
def ordL (L : List Sp) : List Sp := (allL 10 10).filter fun c => decide (c ∈ L)
theorem allL_lt (W H : Nat) : (allL W H).Pairwise ltS := by
  unfold allL
  rw [List.pairwise_map]
  refine List.Pairwise.imp ?_ List.pairwise_lt_range
  intro a b h
  unfold ltS cellN
  simp only
  by_cases h1 : a / W = b / W
  · right
    have e1 := Nat.div_add_mod a W
    have e2 := Nat.div_add_mod b W
    rw [h1] at e1
    refine ⟨by rw [h1], ?_⟩
    omega
  · left
    have := Nat.div_le_div_right (c := W) (Nat.le_of_lt h)
    omega
theorem ordL_mem {L : List Sp} (h : ∀ s ∈ L, inR s) (c : Sp) : c ∈ ordL L ↔ c ∈ L := by
  unfold ordL
  rw [List.mem_filter, decide_eq_true_iff]
  refine ⟨fun h => h.2, fun hc => ⟨?_, hc⟩⟩
  rw [← cellN_ci (h c hc)]
  exact List.mem_map.2 ⟨ci c, List.mem_range.2 (ci_lt (h c hc)), rfl⟩
theorem ordL_lt (L : List Sp) : (ordL L).Pairwise ltS := (allL_lt 10 10).filter _
theorem ordL_len (L : List Sp) : (ordL L).length ≤ 100 := Nat.le_trans (List.length_filter_le _ _) (by simp [allL])
/-- a sorted list, each cell once, is the list in order -/
theorem ord_of {L M : List Sp} (hin : ∀ s ∈ L, inR s) (hp : M.Perm L) (hs : M.Pairwise fun a b => ltOf cmS b a = false) : cpF M = ordL L :=
  strict_eq ltS_ir ltS_as (cpF_strict _ M rfl (hs.imp fun h => (ltOf_cmS0 _ _).1 h)) (ordL_lt L) fun x => by rw [cpF_mem _ M rfl, hp.mem_iff, ordL_mem hin]

/-! ## the open sides of cells -/
def hAt (h : Hd) : Sp := ⟨h.x, h.y⟩
def hOth (h : Hd) : Sp := ⟨nextX h.x (sdOf h.s), nextY h.y (sdOf h.s)⟩
def hdI (h : Hd) : Prop := (0 ≤ h.x ∧ h.x < 10) ∧ 0 ≤ h.y ∧ h.y < 10
def inL (L : List Sp) (c : Sp) : Bool := decide (c ∈ L)
/-- what the reference's list is -/
def opnL (p : Nat → Int) (L : List Sp) : List Hd := (allSd p).filter fun h => (inL L (hAt h) != inL L (hOth h)) && !stP p h
theorem allSd_lt (p : Nat → Int) : (allSd p).Pairwise ltHd := by
  unfold allSd sdL
  rw [List.pairwise_flatMap]
  refine ⟨fun c _ => ?_, (allL_lt (p 0).toNat (p 1).toNat).imp fun {a b} hab x hx y hy => ?_⟩
  · refine List.Pairwise.filter _ ?_
    simp [ltHd]
  · have hx1 := (List.mem_filter.1 hx).1
    have hy1 := (List.mem_filter.1 hy).1
    simp at hx1 hy1
    unfold ltS at hab
    rcases hx1 with rfl | rfl <;> rcases hy1 with rfl | rfl <;> unfold ltHd <;> simp <;> omega
theorem opnL_lt (p : Nat → Int) (L : List Sp) : (opnL p L).Pairwise ltHd := (allSd_lt p).filter _
theorem allSd_mem {p : Nat → Int} (hv : validP p = true) (h : Hd) : h ∈ allSd p ↔ isH p h = true := by
  refine ⟨allSd_isH, fun hh => ?_⟩
  obtain ⟨h1, h2⟩ := isH_cells hh
  obtain ⟨hW, hH, hW10, hH10⟩ := validP_dims hv
  have hr : (0 ≤ h.x ∧ h.x < p 0) ∧ 0 ≤ h.y ∧ h.y < p 1 := by unfold isC inB at h1; simp at h1; omega
  have hx : h.x.toNat < (p 0).toNat := by omega
  have hy : h.y.toNat + 1 ≤ (p 1).toNat := by omega
  have hm := Nat.mul_le_mul_right (p 0).toNat hy
  rw [Nat.succ_mul] at hm
  have e : cellN (p 0).toNat (h.y.toNat * (p 0).toNat + h.x.toNat) = hAt h := by
    rw [cellN_at _ hx]; unfold hAt
    rw [Int.toNat_of_nonneg hr.1.1, Int.toNat_of_nonneg hr.2.1]
  unfold allSd sdL
  refine List.mem_flatMap.2 ⟨hAt h, List.mem_map.2 ⟨_, List.mem_range.2 (by omega), e⟩, List.mem_filter.2 ⟨?_, hh⟩⟩
  obtain ⟨x, y, s⟩ := h
  cases s <;> simp [hAt]
theorem opnL_mem {p : Nat → Int} (hv : validP p = true) (L : List Sp) (h : Hd) : h ∈ opnL p L ↔ isH p h = true ∧ (inL L (hAt h) != inL L (hOth h)) = true ∧ stP p h = false := by
  unfold opnL
  rw [List.mem_filter, allSd_mem hv]
  simp
/-- the sides of a cell to cells that are not in the list -/
def hdA (s : Sp) (k : Nat) : Hd := ⟨hdX s.x k, hdY s.y k, hdS k⟩
def nxA (s : Sp) (k : Nat) : Sp := ⟨nextX s.x k, nextY s.y k⟩
def soB (p : Nat → Int) (L : List Sp) (s : Sp) (j : Nat) : List Hd := ((List.range j).filter fun k => isC (p 0) (p 1) (nxA s k).x (nxA s k).y && !inL L (nxA s k)).map (hdA s)
def soL (p : Nat → Int) (L : List Sp) : List Hd := (ordL L).flatMap fun s => soB p L s 4
theorem soB_mem {p : Nat → Int} {L : List Sp} {s : Sp} {h : Hd} : h ∈ soB p L s 4 ↔ ∃ k, k < 4 ∧ isC (p 0) (p 1) (nxA s k).x (nxA s k).y = true ∧ nxA s k ∉ L ∧ hdA s k = h := by
  unfold soB inL
  simp only [List.mem_map, List.mem_filter, List.mem_range, Bool.and_eq_true, Bool.not_eq_true', decide_eq_false_iff_not]
  exact ⟨fun ⟨k, ⟨h1, h2, h3⟩, h4⟩ => ⟨k, h1, h2, h3, h4⟩, fun ⟨k, h1, h2, h3, h4⟩ => ⟨k, ⟨h1, h2, h3⟩, h4⟩⟩
theorem hdA_ends (s : Sp) (k : Nat) (hk : k < 4) : (hAt (hdA s k) = s ∧ hOth (hdA s k) = nxA s k) ∨ (hAt (hdA s k) = nxA s k ∧ hOth (hdA s k) = s) := by
  obtain ⟨x, y⟩ := s
  match k, hk with
  | 0, _ => right; simp [hdA, nxA, hAt, hOth, hdX, hdY, hdS, nextX, nextY, sdOf]
  | 1, _ => left; simp [hdA, nxA, hAt, hOth, hdX, hdY, hdS, nextX, nextY, sdOf]
  | 2, _ => left; simp [hdA, nxA, hAt, hOth, hdX, hdY, hdS, nextX, nextY, sdOf]
  | 3, _ => right; simp [hdA, nxA, hAt, hOth, hdX, hdY, hdS, nextX, nextY, sdOf]
theorem hdA_of (h : Hd) : (∃ k, k < 4 ∧ hdA (hAt h) k = h ∧ nxA (hAt h) k = hOth h) ∧ ∃ k, k < 4 ∧ hdA (hOth h) k = h ∧ nxA (hOth h) k = hAt h := by
  obtain ⟨x, y, s⟩ := h
  cases s
  · refine ⟨⟨1, by omega, ?_⟩, ⟨3, by omega, ?_⟩⟩ <;> simp [hdA, nxA, hAt, hOth, hdX, hdY, hdS, nextX, nextY, sdOf] <;> omega
  · refine ⟨⟨2, by omega, ?_⟩, ⟨0, by omega, ?_⟩⟩ <;> simp [hdA, nxA, hAt, hOth, hdX, hdY, hdS, nextX, nextY, sdOf] <;> omega
theorem nxA_inj {s : Sp} {k j : Nat} (hk : k < 4) (hj : j < 4) (h : nxA s k = nxA s j) : k = j := by
  obtain ⟨x, y⟩ := s
  have h1 := congrArg Sp.x h
  have h2 := congrArg Sp.y h
  match k, hk, j, hj with
  | 0, _, 0, _ | 1, _, 1, _ | 2, _, 2, _ | 3, _, 3, _ => rfl
  | 0, _, 1, _ | 0, _, 2, _ | 0, _, 3, _ | 1, _, 0, _ | 1, _, 2, _ | 1, _, 3, _ | 2, _, 0, _ | 2, _, 1, _ | 2, _, 3, _ | 3, _, 0, _ | 3, _, 1, _ | 3, _, 2, _ => simp [nxA, nextX, nextY] at h1 h2 <;> omega
theorem soL_nodup {p : Nat → Int} {L : List Sp} (hin : ∀ s ∈ L, inR s) : (soL p L).Pairwise (· ≠ ·) := by
  unfold soL
  rw [List.pairwise_flatMap]
  refine ⟨fun s _ => ?_, ?_⟩
  · unfold soB
    rw [List.pairwise_map]
    refine List.Pairwise.imp_of_mem (R := (· ≠ ·)) ?_ (List.Pairwise.filter _ (List.nodup_range (n := 4)))
    intro a b ha hb hab e
    have ha4 := List.mem_range.1 (List.mem_filter.1 ha).1
    have hb4 := List.mem_range.1 (List.mem_filter.1 hb).1
    apply hab
    rcases hdA_ends s a ha4 with ⟨h1, h2⟩ | ⟨h1, h2⟩ <;> rcases hdA_ends s b hb4 with ⟨h3, h4⟩ | ⟨h3, h4⟩ <;> rw [e] at h1 h2
    · exact nxA_inj ha4 hb4 (h2.symm.trans h4)
    · exact nxA_inj ha4 hb4 (h2.symm.trans (h4.trans (h1.symm.trans h3)))
    · exact nxA_inj ha4 hb4 (h1.symm.trans (h3.trans (h2.symm.trans h4)))
    · exact nxA_inj ha4 hb4 (h1.symm.trans h3)
  · refine List.Pairwise.imp_of_mem ?_ (ordL_lt L)
    intro s t hs ht hst x hx y hy e
    rw [ordL_mem hin] at hs ht
    obtain ⟨a, ha4, _, ha, rfl⟩ := soB_mem.1 hx
    obtain ⟨b, hb4, _, hb, rfl⟩ := soB_mem.1 hy
    have hne : s ≠ t := fun e' => ltS_ir s (by rw [← e'] at hst; exact hst)
    rcases hdA_ends s a ha4 with ⟨h1, h2⟩ | ⟨h1, h2⟩ <;> rcases hdA_ends t b hb4 with ⟨h3, h4⟩ | ⟨h3, h4⟩ <;> rw [e] at h1 h2
    · exact hne (h1.symm.trans h3)
    · exact hb (by rw [← h3, h1]; exact hs)
    · exact ha (by rw [← h1, h3]; exact ht)
    · exact hne (h2.symm.trans h4)
/-- the program's list, sorted, is the reference's -/
theorem opn_of {p : Nat → Int} {L : List Sp} {M : List Hd} (hv : validP p = true) (hL : ∀ s ∈ L, isC (p 0) (p 1) s.x s.y = true) (hp : M.Perm ((soL p L).filter fun h => !stP p h)) (hs : M.Pairwise fun a b => ltOf cmH b a = false) : M = opnL p L := by
  have hin : ∀ s ∈ L, inR s := fun s h => isC_range (hL s h)
  have hnd : M.Pairwise (· ≠ ·) := hp.symm.pairwise ((soL_nodup hin).filter _) fun h => h.symm
  refine strict_eq ltHd_ir ltHd_as ?_ (opnL_lt p L) fun h => ?_
  · refine (hs.and hnd).imp fun {a b} h => ltHd_ne ((ltOf_cmH0 _ _).1 h.1) fun e => h.2 e.symm
  · rw [hp.mem_iff, opnL_mem hv, List.mem_filter]
    unfold soL
    rw [List.mem_flatMap]
    constructor
    · rintro ⟨⟨s, hs, hh⟩, hst⟩
      rw [ordL_mem hin] at hs
      obtain ⟨k, hk, hc, hn, rfl⟩ := soB_mem.1 hh
      have hsc := hL s hs
      have h2 : inL L s = true := by simp [inL, hs]
      have h3 : inL L (nxA s k) = false := by simp [inL, hn]
      rcases hdA_ends s k hk with ⟨e1, e2⟩ | ⟨e1, e2⟩
      · refine ⟨?_, by rw [e1, e2, h2, h3]; rfl, by simpa using hst⟩
        unfold isH
        show (isC (p 0) (p 1) (hAt (hdA s k)).x (hAt (hdA s k)).y && isC (p 0) (p 1) (hOth (hdA s k)).x (hOth (hdA s k)).y) = true
        rw [e1, e2, hsc, hc]; rfl
      · refine ⟨?_, by rw [e1, e2, h2, h3]; rfl, by simpa using hst⟩
        unfold isH
        show (isC (p 0) (p 1) (hAt (hdA s k)).x (hAt (hdA s k)).y && isC (p 0) (p 1) (hOth (hdA s k)).x (hOth (hdA s k)).y) = true
        rw [e1, e2, hsc, hc]; rfl
    · rintro ⟨hh, hx, hst⟩
      refine ⟨?_, by simpa using hst⟩
      have hc := isH_cells hh
      obtain ⟨⟨k, hk, e1, e2⟩, ⟨j, hj, e3, e4⟩⟩ := hdA_of h
      cases ha : inL L (hAt h)
      · have hb : inL L (hOth h) = true := by rw [ha] at hx; simpa using hx
        have hb' : hOth h ∈ L := by simpa [inL] using hb
        have ha' : hAt h ∉ L := by simpa [inL] using ha
        exact ⟨hOth h, (ordL_mem hin _).2 hb', soB_mem.2 ⟨j, hj, by rw [e4]; exact hc.1, by rw [e4]; exact ha', e3⟩⟩
      · have hb : inL L (hOth h) = false := by rw [ha] at hx; simpa using hx
        have hb' : hOth h ∉ L := by simpa [inL] using hb
        have ha' : hAt h ∈ L := by simpa [inL] using ha
        exact ⟨hAt h, (ordL_mem hin _).2 ha', soB_mem.2 ⟨k, hk, by rw [e2]; exact hc.2, by rw [e2]; exact hb', e1⟩⟩
end Go.Proofs.Ytnafnhpajkhgkaa
/- The first of the shortest ways, in plain Lean. No condition. -/
namespace Go.Proofs.Ytnafnhpajkhgkaa
set_option linter.unusedVariables false
set_option linter.unusedSimpArgs false
attribute [local irreducible] stepsP bfsN bfs
/-! ## lists of cells of one length, in order -/
def leL : List Sp → List Sp → Prop
  | a :: x, b :: y => ltS a b ∨ (a = b ∧ leL x y)
  | _, _ => True
theorem leL_refl : ∀ x, leL x x
  | [] => trivial
  | a :: x => .inr ⟨rfl, leL_refl x⟩
theorem leL_anti : ∀ {x y : List Sp}, x.length = y.length → leL x y → leL y x → x = y
  | [], [], _, _, _ => rfl
  | [], b :: y, h, _, _ => by simp at h
  | a :: x, [], h, _, _ => by simp at h
  | a :: x, b :: y, h, h1, h2 => by
    unfold leL at h1 h2
    rcases h1 with h1 | ⟨e, h1⟩
    · rcases h2 with h2 | ⟨e, _⟩
      · exact absurd h2 (ltS_as _ _ h1)
      · subst e; exact absurd h1 (ltS_ir _)
    · subst e
      rcases h2 with h2 | ⟨_, h2⟩
      · exact absurd h2 (ltS_ir _)
      · rw [leL_anti (by simpa using h) h1 h2]
theorem leL_trans : ∀ {x y z : List Sp}, x.length = y.length → y.length = z.length → leL x y → leL y z → leL x z
  | [], _, _, _, _, _, _ => by unfold leL; trivial
  | a :: x, [], _, h, _, _, _ => by simp at h
  | a :: x, b :: y, [], _, h, _, _ => by simp at h
  | a :: x, b :: y, c :: z, h, h', h1, h2 => by
    unfold leL at h1 h2 ⊢
    rcases h1 with h1 | ⟨e, h1⟩
    · rcases h2 with h2 | ⟨e, _⟩
      · exact .inl (ltS_tr h1 h2)
      · subst e; exact .inl h1
    · subst e
      rcases h2 with h2 | ⟨e, h2⟩
      · exact .inl h2
      · exact .inr ⟨e, leL_trans (by simpa using h) (by simpa using h') h1 h2⟩
instance ltS_dec (a b : Sp) : Decidable (ltS a b) := by unfold ltS; infer_instance
/-- the reference's test: at the first place where they part -/
def ahB : List Sp → List Sp → Bool
  | a :: x, b :: y => if a = b then ahB x y else decide (ltS a b)
  | _, _ => false
theorem ahB_yes : ∀ {x y : List Sp}, ahB x y = true → leL x y
  | [], _, _ => by unfold leL; trivial
  | a :: x, [], _ => trivial
  | a :: x, b :: y, h => by
    unfold ahB at h
    unfold leL
    split at h
    · rename_i e; exact .inr ⟨e, ahB_yes h⟩
    · exact .inl (by simpa using h)
theorem ahB_no : ∀ {x y : List Sp}, x.length = y.length → ahB x y = false → leL y x
  | [], [], _, _ => trivial
  | [], b :: y, h, _ => by simp at h
  | a :: x, [], h, _ => by simp at h
  | a :: x, b :: y, h, h' => by
    unfold ahB at h'
    unfold leL
    split at h'
    · rename_i e; exact .inr ⟨e.symm, ahB_no (by simpa using h) h'⟩
    · rename_i e; exact .inl (ltS_ne (by simpa using h') e)

/-! ## the least of some cells -/
def minS : Sp → List Sp → Sp
  | m, [] => m
  | m, c :: l => minS (if ltS c m then c else m) l
/-! ## ways -/
/-- who comes next: of those that are a step nearer, the first -/
def nearL (p : Nat → Int) (D : Nat → Int) (s : Sp) : List Sp := (nbP p s).filter fun c => decide (D (ci c) = D (ci s) - 1)
def pickW (p : Nat → Int) (D : Nat → Int) (s : Sp) : Sp := match nearL p D s with
  | [] => s
  | c :: l => minS c l
def gw (p : Nat → Int) (D : Nat → Int) : Nat → Sp → List Sp
  | 0, s => [s]
  | k + 1, s => s :: gw p D k (pickW p D s)
section
variable {p : Nat → Int} {B : List Sp}
theorem celR (hB : ∀ c ∈ B, cel p c) : ∀ c ∈ B, inR c := fun c hc => isC_range (hB c hc)
end

/-! ## the program's choice -/
/-! ## the reference's choice -/
/-! ## they choose the same way -/
section
variable {p : Nat → Int} {A B : List Sp}
end
end Go.Proofs.Ytnafnhpajkhgkaa
