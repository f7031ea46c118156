import Derived.Shelf.SlSortCmp.WholeK
import Derived.Test.YtnafnhpajkhgkaaQW13
import Derived.Test.YtnafnhpajkhgkaaQW14
import Derived.Test.YtnafnhpajkhgkaaQW16
import Derived.Test.YtnafnhpajkhgkaaQW18
import Derived.Test.YtnafnhpajkhgkaaQW19
import Derived.Test.YtnafnhpajkhgkaaQW21
import Derived.Test.YtnafnhpajkhgkaaQW23
/- The table of steps tells how far cells are, in plain Lean. No condition. -/
namespace Go.Proofs.Ytnafnhpajkhgkaa
set_option linter.unusedVariables false
set_option linter.unusedSimpArgs false

/-- the queue is in the order of the table, and no place is more than a step behind m -/
structure BM (nb : Sp → List Sp) (a : List Sp) (q : Bq) (m : Int) : Prop where
  mono : ∀ (j k : Nat) c d, j ≤ k → q.2[j]? = some c → q.2[k]? = some d → q.1 (ci c) ≤ q.1 (ci d)
  bnd : ∀ c ∈ q.2, q.1 (ci c) ≤ m + 1
  pre : ∀ c ∈ q.2, (c ∈ a ∧ q.1 (ci c) = 1) ∨ ∃ s ∈ q.2, c ∈ nb s ∧ q.1 (ci c) = q.1 (ci s) + 1
theorem BM.rel {nb : Sp → List Sp} {a : List Sp} {q : Bq} {m : Int} (h : BM nb a q m) (hi : BI nb a q) {s c : Sp} (hs : s ∈ q.2) (hm : q.1 (ci s) = m) (hc : inR c) (hn : c ∈ nb s) : BM nb a (relC s q c) m ∧ (relC s q c).1 (ci s) = m := by
  unfold relC
  split
  case isFalse => exact ⟨h, hm⟩
  case isTrue hz =>
    have hold : ∀ d ∈ q.2, upd q.1 (ci c) (q.1 (ci s) + 1) (ci d) = q.1 (ci d) := fun d hd => upd_ne _ _ fun e => by
      have := ci_inj (hi.inr d hd) hc e
      subst this
      have := hi.pos d hd; omega
    have hnew : upd q.1 (ci c) (q.1 (ci s) + 1) (ci c) = m + 1 := by rw [upd_at, hm]
    refine ⟨⟨?_, ?_, ?_⟩, by show upd q.1 (ci c) (q.1 (ci s) + 1) (ci s) = m; rw [hold s hs, hm]⟩
    · intro j k x y hjk hx hy
      show upd q.1 (ci c) (q.1 (ci s) + 1) (ci x) ≤ upd q.1 (ci c) (q.1 (ci s) + 1) (ci y)
      have hx' : (q.2 ++ [c])[j]? = some x := hx
      have hy' : (q.2 ++ [c])[k]? = some y := hy
      by_cases hk : k < q.2.length
      · rw [List.getElem?_append_left hk] at hy'
        rw [List.getElem?_append_left (by omega)] at hx'
        rw [hold x (List.mem_of_getElem? hx'), hold y (List.mem_of_getElem? hy')]
        exact h.mono j k x y hjk hx' hy'
      · rw [List.getElem?_append_right (by omega)] at hy'
        have hyc : y = c := by
          cases hq : k - q.2.length with
          | zero => rw [hq] at hy'; simpa using hy'.symm
          | succ n => rw [hq] at hy'; simp at hy'
        subst hyc
        rw [hnew]
        rcases List.mem_append.1 (List.mem_of_getElem? hx') with h1 | h1
        · rw [hold x h1]; exact h.bnd x h1
        · rw [List.mem_singleton] at h1; subst h1; rw [hnew]; omega
    · intro d hd
      show upd q.1 (ci c) (q.1 (ci s) + 1) (ci d) ≤ m + 1
      rcases List.mem_append.1 hd with h1 | h1
      · rw [hold d h1]; exact h.bnd d h1
      · rw [List.mem_singleton] at h1; subst h1; rw [hnew]; omega
    · intro d hd
      show (d ∈ a ∧ upd q.1 (ci c) (q.1 (ci s) + 1) (ci d) = 1) ∨ ∃ t ∈ q.2 ++ [c], d ∈ nb t ∧ upd q.1 (ci c) (q.1 (ci s) + 1) (ci d) = upd q.1 (ci c) (q.1 (ci s) + 1) (ci t) + 1
      rcases List.mem_append.1 hd with h1 | h1
      · rw [hold d h1]
        rcases h.pre d h1 with h2 | ⟨t, ht, h2, h3⟩
        · exact .inl h2
        · exact .inr ⟨t, List.mem_append.2 (.inl ht), h2, by rw [hold t ht]; exact h3⟩
      · rw [List.mem_singleton] at h1; subst h1
        exact .inr ⟨s, List.mem_append.2 (.inl hs), hn, by rw [hnew, hold s hs, hm]⟩
theorem BM.fold {nb : Sp → List Sp} {a : List Sp} {s : Sp} {m : Int} : ∀ (l : List Sp) (q : Bq), BM nb a q m → BI nb a q → s ∈ q.2 → q.1 (ci s) = m → (∀ c ∈ l, inR c ∧ c ∈ nb s) → BM nb a (l.foldl (relC s) q) m ∧ (l.foldl (relC s) q).1 (ci s) = m ∧ ∀ c ∈ l, (l.foldl (relC s) q).1 (ci c) ≤ m + 1
  | [], q, h, _, _, hm, _ => ⟨h, hm, fun c hc => by cases hc⟩
  | c :: l, q, h, hi, hs, hm, hl => by
    rw [List.foldl_cons]
    have hc := hl c (by simp)
    have hr := h.rel hi hs hm hc.1 hc.2
    have ih := BM.fold l (relC s q c) hr.1 (hi.rel hs hc.1 hc.2) (relC_mem hs) hr.2 fun d hd => hl d (by simp [hd])
    refine ⟨ih.1, ih.2.1, fun d hd => ?_⟩
    rcases List.mem_cons.1 hd with e | e
    · subst e
      have hne : (relC s q d).1 (ci d) ≠ 0 := relC_set fun j => (hi.le j).1
      rw [fold_old l _ hne]
      exact hr.1.bnd d ((hi.rel hs hc.1 hc.2).zero d hc.1 hne)
    · exact ih.2.2 d e
theorem BM.weak {nb : Sp → List Sp} {a : List Sp} {q : Bq} {m m' : Int} (h : BM nb a q m) (hm : m ≤ m') : BM nb a q m' := ⟨h.mono, fun c hc => by have := h.bnd c hc; omega, h.pre⟩
/-- the state with the first i visited -/
theorem bfs_bm {nb : Sp → List Sp} {a : List Sp} {q0 : Bq} (h : BI nb a q0) (h0 : ∀ c ∈ q0.2, c ∈ a ∧ q0.1 (ci c) = 1) (hnb : NbOk nb) : ∀ i : Nat,
    (∃ m, BM nb a (bfsN nb q0 i) m ∧ ∀ s, (bfsN nb q0 i).2[i]? = some s → m ≤ (bfsN nb q0 i).1 (ci s)) ∧ ∀ (j : Nat) s c, j < i → (bfsN nb q0 i).2[j]? = some s → c ∈ nb s → (bfsN nb q0 i).1 (ci c) ≤ (bfsN nb q0 i).1 (ci s) + 1
  | 0 => by
    refine ⟨⟨0, ⟨fun j k c d _ hc hd => ?_, fun c hc => ?_, fun c hc => .inl (h0 c hc)⟩, fun s hs => ?_⟩, fun j s c hj => by omega⟩
    · show q0.1 (ci c) ≤ q0.1 (ci d)
      rw [(h0 c (List.mem_of_getElem? hc)).2, (h0 d (List.mem_of_getElem? hd)).2]; omega
    · show q0.1 (ci c) ≤ 0 + 1
      rw [(h0 c hc).2]; omega
    · show 0 ≤ q0.1 (ci s)
      rw [(h0 s (List.mem_of_getElem? hs)).2]; omega
  | i + 1 => by
    obtain ⟨⟨m, hM, hhead⟩, hcl⟩ := bfs_bm h h0 hnb i
    have hB := BI.bfs h hnb i
    cases hi : (bfsN nb q0 i).2[i]? with
    | none =>
      have hlen := List.getElem?_eq_none_iff.1 hi
      have e : bfsN nb q0 (i + 1) = bfsN nb q0 i := bfsN_end hlen 1
      rw [e]
      refine ⟨⟨m, hM, fun s hs => ?_⟩, fun j s c hj hs hc => ?_⟩
      · have := (List.getElem?_eq_some_iff.1 hs).1; omega
      · have := (List.getElem?_eq_some_iff.1 hs).1
        exact hcl j s c (by omega) hs hc
    | some s =>
      rw [bfsN_step hi]
      have hsm := List.mem_of_getElem? hi
      have hf := BM.fold (nb s) (bfsN nb q0 i) (hM.weak (hhead s hi)) hB hsm rfl fun c hc => ⟨hnb s c hc, hc⟩
      have hB' := BI.fold (nb s) _ hB hsm fun c hc => ⟨hnb s c hc, hc⟩
      unfold visit
      have hget : ∀ (j : Nat) t, (bfsN nb q0 i).2[j]? = some t → ((nb s).foldl (relC s) (bfsN nb q0 i)).2[j]? = some t := fun j t ht => fold_get (nb s) _ ht
      refine ⟨⟨_, hf.1, fun t ht => ?_⟩, fun j t c hj ht hc => ?_⟩
      · have h1 := hf.1.mono i (i + 1) s t (by omega) (hget i s hi) ht
        rw [hf.2.1] at h1; exact h1
      · by_cases e : j = i
        · subst e
          have h1 := hget j s hi
          rw [ht] at h1; injection h1 with h1; subst h1
          rw [hf.2.1]; exact hf.2.2 c hc
        · have hlt : j < (bfsN nb q0 i).2.length := by have := (List.getElem?_eq_some_iff.1 hi).1; omega
          have h2 : (bfsN nb q0 i).2[j]? = some (bfsN nb q0 i).2[j] := List.getElem?_eq_getElem hlt
          have h1 := hget j _ h2
          rw [ht] at h1; injection h1 with h1
          rw [← h1] at h2
          have h3 := bfs_done h hnb i j t c (by omega) h2 hc
          have h4 : (bfsN nb q0 i).1 (ci t) ≠ 0 := by have := hB.pos t (List.mem_of_getElem? h2); omega
          rw [fold_old _ _ h3, fold_old _ _ h4]
          exact hcl j t c (by omega) h2 hc
theorem tabN_one (nb : Sp → List Sp) {q0 : Bq} {j : Nat} (h : q0.1 j ≠ 0) : ∀ i, (bfsN nb q0 i).1 j = q0.1 j
  | 0 => rfl
  | i + 1 => by
    have ih := tabN_one nb h i
    rw [bfsN]
    split
    · exact ih
    · unfold visit; rw [fold_old _ _ (by rw [ih]; exact h), ih]
attribute [local irreducible] bfsN
section
variable {p : Nat → Int} {a : List Sp}
theorem steps_bm (ha : ∀ c ∈ a, inR c) : (∃ m, BM (nbP p) a (stepsP p a) m) ∧ ∀ s c, s ∈ (stepsP p a).2 → c ∈ nbP p s → (stepsP p a).1 (ci c) ≤ (stepsP p a).1 (ci s) + 1 := by
  have h := bfs_bm (nb := nbP p) (bi0 (nb := nbP p) ha) (fun c hc => ⟨hc, by show tab1 a (ci c) = 1; rw [tab1_at, if_pos (List.mem_map_of_mem hc)]⟩) (nbP_ok p) (a.length + 100)
  have hl := (stepsP_bi p ha).len
  refine ⟨⟨_, h.1.choose_spec.1⟩, fun s c hs hc => ?_⟩
  obtain ⟨j, hj⟩ := List.mem_iff_getElem?.1 hs
  have hlt := (List.getElem?_eq_some_iff.1 hj).1
  exact h.2 j s c (by omega) hj hc
theorem steps_closed (ha : ∀ c ∈ a, inR c) {s c : Sp} (hs : s ∈ (stepsP p a).2) (hc : c ∈ nbP p s) : c ∈ (stepsP p a).2 := bfs_closed (bi0 ha) (nbP_ok p) hs hc
theorem steps_mem (ha : ∀ c ∈ a, inR c) {c : Sp} (hc : inR c) : c ∈ (stepsP p a).2 ↔ (stepsP p a).1 (ci c) ≠ 0 :=
  ⟨fun h => by have := (stepsP_bi p ha).pos c h; omega, (stepsP_bi p ha).zero c hc⟩
theorem steps_one (ha : ∀ c ∈ a, inR c) {c : Sp} (hc : inR c) : (stepsP p a).1 (ci c) = 1 ↔ c ∈ a := by
  constructor
  · intro h
    have hm := (steps_mem ha hc).2 (by rw [h]; decide)
    obtain ⟨m, hM⟩ := (steps_bm (p := p) ha).1
    rcases hM.pre c hm with h1 | ⟨s, hs, _, h2⟩
    · exact h1.1
    · have := (stepsP_bi p ha).pos s hs; omega
  · intro h
    have h1 : tab1 a (ci c) = 1 := by rw [tab1_at, if_pos (List.mem_map_of_mem h)]
    have h2 := tabN_one (nbP p) (q0 := (tab1 a, a)) (j := ci c) (by show tab1 a (ci c) ≠ 0; rw [h1]; decide) (a.length + 100)
    exact h2.trans h1
/-- Who stands not at the beginning has one before. -/
theorem steps_pre (ha : ∀ c ∈ a, inR c) {c : Sp} (hc : inR c) (h : 1 < (stepsP p a).1 (ci c)) : ∃ s ∈ (stepsP p a).2, c ∈ nbP p s ∧ (stepsP p a).1 (ci c) = (stepsP p a).1 (ci s) + 1 := by
  have hm := (steps_mem (p := p) ha hc).2 (by omega)
  obtain ⟨m, hM⟩ := (steps_bm (p := p) ha).1
  rcases hM.pre c hm with h1 | h1
  · have := h1.2; omega
  · exact h1
end
end Go.Proofs.Ytnafnhpajkhgkaa
/- The cells reached from a stake and their grass: the reference's. No condition. -/
namespace Go.Proofs.Ytnafnhpajkhgkaa
set_option linter.unusedVariables false
set_option linter.unusedSimpArgs false
open Go.RowKit Mem Wk
attribute [local irreducible] Calls Wk.S Wk.C Wk.E Wk.X Wk.T Wk.Y Wk.anV Wk.orV Wk.andV Wk.shlV Wk.shrV Calm.wpLex CalmB.wpLex bfsN
/-- a table of a test of cells -/
def tbl (F : Sp → Bool) (j : Nat) : Bool := F (cellN 10 j)
theorem cellN_ci {c : Sp} (h : inR c) : cellN 10 (ci c) = c := by
  obtain ⟨x, y⟩ := c
  unfold inR at h; simp only at h
  obtain ⟨a, rfl⟩ : ∃ a : Nat, x = (a : Int) := ⟨x.toNat, by omega⟩
  obtain ⟨b, rfl⟩ : ∃ b : Nat, y = (b : Int) := ⟨y.toNat, by omega⟩
  have e : ci ⟨(a : Int), (b : Int)⟩ = b * 10 + a := by unfold ci; simp
  rw [e]; exact cellN_at b (by omega)
/-- y rows and x more cells have been filled in -/
def done (F : Sp → Bool) (y x : Nat) (j : Nat) : Bool := (decide (j / 10 < y) || (decide (j / 10 = y) && decide (j % 10 < x))) && tbl F j
end Go.Proofs.Ytnafnhpajkhgkaa
/- Equality of cells in a walk. No condition. -/
namespace Go.Proofs.Ytnafnhpajkhgkaa
set_option linter.unusedVariables false
set_option linter.unusedSimpArgs false
open Go.RowKit Mem Wk
instance decSp : DecidableEq Sp := fun a b => if h : a.x = b.x ∧ a.y = b.y then isTrue (by obtain ⟨x, y⟩ := a; obtain ⟨u, v⟩ := b; simp only at h; rw [h.1, h.2]) else isFalse fun e => h ⟨by rw [e], by rw [e]⟩
attribute [local irreducible] Calls Wk.S Wk.C Wk.E Wk.X Wk.T Calm.wpLex
theorem r_eqSpC {n : Nat} {O : List Nat} {w0 : World} {l : List (Nat × Value)} {L : List (Nat × TypeId × Array Value)} {o : Oper} {x y : Operand} {t' : Nat} {a b c d : Int} {v : Bool} (ho : o.op = .binOp .eql 52 x y t') (hx : ev l x = some (.agg #[.int .i8 a, .int .i8 b])) (hy : ev l y = some (.agg #[.int .i8 c, .int .i8 d])) (hv : (decide (a = c) && decide (b = d)) = v) : Rn Try.prog n O w0 l L o (.bool v) := by
  subst hv; exact r_eqSpot ho hx hy
theorem r_neqSpC {n : Nat} {O : List Nat} {w0 : World} {l : List (Nat × Value)} {L : List (Nat × TypeId × Array Value)} {o : Oper} {x y : Operand} {t' : Nat} {a b c d : Int} {v : Bool} (ho : o.op = .binOp .neq 52 x y t') (hx : ev l x = some (.agg #[.int .i8 a, .int .i8 b])) (hy : ev l y = some (.agg #[.int .i8 c, .int .i8 d])) (hv : (!(decide (a = c) && decide (b = d))) = v) : Rn Try.prog n O w0 l L o (.bool v) := by
  subst hv; exact r_neqSpot ho hx hy
theorem sp_eqv (s r : Sp) : (decide (s.x = r.x) && decide (s.y = r.y)) = decide (s = r) := by
  obtain ⟨x, y⟩ := s; obtain ⟨u, v⟩ := r
  by_cases h : (⟨x, y⟩ : Sp) = ⟨u, v⟩
  · injection h with h1 h2; subst h1; subst h2; simp
  · rw [decide_eq_false h]
    by_cases h1 : x = u
    · by_cases h2 : y = v
      · subst h1; subst h2; exact absurd rfl h
      · simp [h2]
    · simp [h1]
theorem spot_of_eq {a b : Sp} (h : eqSp a b = true) : a = b := by
  unfold eqSp at h
  simp at h
  obtain ⟨x, y⟩ := a
  obtain ⟨u, v⟩ := b
  simp only at h
  rw [h.1, h.2]
end Go.Proofs.Ytnafnhpajkhgkaa
/- All sides of a pasture that a function accepts; the hurdles that stand: both programs'. No condition. -/
namespace Go.Proofs.Ytnafnhpajkhgkaa
set_option linter.unusedVariables false
set_option linter.unusedSimpArgs false
open Go.RowKit Mem Wk

attribute [local irreducible] Calls Wk.S Wk.C Wk.E Wk.X Wk.T Wk.anV Wk.orV Wk.andV Wk.shlV Wk.shrV Calm.wpLex
/-! lists of hurdles -/
def flH (l : List Hd) : List Value := (l.map Hd.cells).flatten
theorem flH_snoc (l : List Hd) (a : Hd) : flH (l ++ [a]) = flH l ++ a.cells := by simp [flH]
theorem iHurdle : (Try.prog.info? 66).map (fun i => (i.zero, i.size, i.bytes)) = some (some (.agg #[.int .i8 0, .int .i8 0, .bool false]), 3, 3) := by kernel_rfl
theorem uHurdleS : Try.prog.underlying 55 = some (.slice 66) := by kernel_rfl
theorem slHurdle0 (w : World) : (Instr.buildSlice 55 0 #[]).run Try.prog w = .ok (.slice (some ⟨w.heap.size, 0, none⟩) 0 0) (w.alloc (.cells #[] 66 (0, 0))) := by kernel_rfl
theorem slHurdle1 (a b c : Value) (w : World) : (Instr.buildSlice 55 1 #[(0, .agg #[a, b, c])]).run Try.prog w = .ok (.slice (some ⟨w.heap.size, 0, none⟩) 1 1) (w.alloc (.cells #[a, b, c] 66 (0, 0))) := by kernel_rfl
theorem Wk.Ap.hd {n cap : Nat} {cur : Array Value} {l : List Hd} (h : Ap 3 n cap cur (flH l)) {i : Nat} {s : Hd} (hi : l[i]? = some s) : (0 + i * 3 + 3 ≤ cur.size ∧ cur.extract (0 + i * 3) (0 + i * 3 + 3) = #[.int .i8 s.x, .int .i8 s.y, .bool s.s]) ∧ 0 + i * 3 + 0 + 2 ≤ cur.size ∧ cur.extract (0 + i * 3 + 0) (0 + i * 3 + 0 + 2) = #[.int .i8 s.x, .int .i8 s.y] := by
  simp only [Nat.zero_add, Nat.add_zero]
  have hx : (l.map Hd.cells)[i]? = some s.cells := by simp [hi]
  have he := h.elem (lenHd l) hx
  have h0 : cur[i * 3 + 0]? = some (.int .i8 s.x) := he 0 (by omega)
  have h1 : cur[i * 3 + 1]? = some (.int .i8 s.y) := he 1 (by omega)
  have h2 : cur[i * 3 + 2]? = some (.bool s.s) := he 2 (by omega)
  obtain ⟨q0, e0⟩ := Array.getElem?_eq_some_iff.1 h0
  obtain ⟨q1, e1⟩ := Array.getElem?_eq_some_iff.1 h1
  obtain ⟨q2, e2⟩ := Array.getElem?_eq_some_iff.1 h2
  refine ⟨⟨by omega, ?_⟩, by omega, ?_⟩
  · apply Array.ext
    · simp; omega
    · intro j hj1 hj2
      simp only [List.size_toArray, List.length_cons, List.length_nil] at hj2
      rcases (by omega : j = 0 ∨ j = 1 ∨ j = 2) with rfl | rfl | rfl <;> simp_all [Array.getElem_extract]
  · apply Array.ext
    · simp; omega
    · intro j hj1 hj2
      simp only [List.size_toArray, List.length_cons, List.length_nil] at hj2
      rcases (by omega : j = 0 ∨ j = 1) with rfl | rfl <;> simp_all [Array.getElem_extract]
theorem Wk.Ap.slH {n cap : Nat} {cur : Array Value} {l : List Hd} (h : Ap 3 n cap cur (flH l)) {w : World} {g : Nat} {T : TypeId} (hg : w.heap[g]? = some (.cells cur T (0, 0))) : n = l.length ∧ SlA [] w 3 (some ⟨g, 0, none⟩) (l.map Hd.cells) :=
  ⟨by simpa using h.count (lenHd l) (by omega), h.slA (lenHd l) hg⟩
/-! sides, plainly -/
def sdB (f : Hd → Bool) (c : Sp) (j : Nat) : List Hd := ([⟨c.x, c.y, false⟩, ⟨c.x, c.y, true⟩].take j).filter f
def sdL (f : Hd → Bool) (W k : Nat) : List Hd := ((List.range k).map (cellN W)).flatMap fun c => sdB f c 2
theorem sdB_len (f : Hd → Bool) (c : Sp) (j : Nat) : (sdB f c j).length ≤ 2 := by
  unfold sdB
  refine Nat.le_trans (List.length_filter_le _ _) ?_
  simp [List.length_take]; omega
theorem sdL_snoc (f : Hd → Bool) (W k : Nat) : sdL f W (k + 1) = sdL f W k ++ sdB f (cellN W k) 2 := by
  unfold sdL; rw [List.range_succ, List.map_append, List.flatMap_append]; simp
theorem sdL_len (f : Hd → Bool) (W : Nat) : ∀ k, (sdL f W k).length ≤ 2 * k
  | 0 => by simp [sdL]
  | k + 1 => by
    rw [sdL_snoc, List.length_append]
    have := sdL_len f W k
    have := sdB_len f (cellN W k) 2
    omega
theorem sdL_mem {f : Hd → Bool} {W H : Nat} {h : Hd} (hm : h ∈ sdL f W (H * W)) : f h = true := by
  unfold sdL sdB at hm
  simp only [List.mem_flatMap, List.mem_filter] at hm
  obtain ⟨c, _, _, e⟩ := hm
  exact e
end Go.Proofs.Ytnafnhpajkhgkaa
/- All sides and the hurdles that stand: the specification's lists and the program's are the same. No condition. -/
namespace Go.Proofs.Ytnafnhpajkhgkaa
set_option linter.unusedVariables false
set_option linter.unusedSimpArgs false
open Go.RowKit Mem Wk
attribute [local irreducible] Calls Wk.S Wk.C Wk.E Wk.X Wk.T Wk.anV Wk.orV Wk.andV Wk.shlV Wk.shrV Calm.wpLex
def stP (p : Nat → Int) (h : Hd) : Bool := standB p h.x h.y h.s
def allSd (p : Nat → Int) : List Hd := sdL (isH p) (p 0).toNat ((p 1).toNat * (p 0).toNat)
theorem validP_dims {p : Nat → Int} (h : validP p = true) : p 0 = ((p 0).toNat : Int) ∧ p 1 = ((p 1).toNat : Int) ∧ (p 0).toNat ≤ 10 ∧ (p 1).toNat ≤ 10 := by
  unfold validP at h
  simp only [Bool.and_eq_true] at h
  obtain ⟨h0, h1, _⟩ := h
  unfold inB at h0 h1
  simp at h0 h1
  omega
theorem allSd_len {p : Nat → Int} (h : validP p = true) : (allSd p).length ≤ 200 := by
  obtain ⟨_, _, h1, h2⟩ := validP_dims h
  have := sdL_len (isH p) (p 0).toNat ((p 1).toNat * (p 0).toNat)
  have : (p 1).toNat * (p 0).toNat ≤ 10 * 10 := Nat.mul_le_mul h2 h1
  unfold allSd; omega
theorem allSd_isH {p : Nat → Int} {h : Hd} (hm : h ∈ allSd p) : isH p h = true := sdL_mem hm
theorem isH_cells {p : Nat → Int} {h : Hd} (hh : isH p h = true) : isC (p 0) (p 1) h.x h.y = true ∧ isC (p 0) (p 1) (nextX h.x (sdOf h.s)) (nextY h.y (sdOf h.s)) = true := by
  unfold isH at hh; simpa using hh
end Go.Proofs.Ytnafnhpajkhgkaa
/- Cells and hurdles in order, each once: in plain Lean. No condition. -/
namespace Go.Proofs.Ytnafnhpajkhgkaa
set_option linter.unusedVariables false
set_option linter.unusedSimpArgs false
open Go.Sort

/-! ## lists in a strict order are told by their members -/
theorem strict_eq {α : Type} {R : α → α → Prop} (hir : ∀ a, ¬ R a a) (has : ∀ a b, R a b → ¬ R b a) : ∀ {l m : List α}, l.Pairwise R → m.Pairwise R → (∀ x, x ∈ l ↔ x ∈ m) → l = m
  | [], [], _, _, _ => rfl
  | [], b :: m, _, _, h => by have := (h b).2 (by simp); simp at this
  | a :: l, [], _, _, h => by have := (h a).1 (by simp); simp at this
  | a :: l, b :: m, hl, hm, h => by
    rw [List.pairwise_cons] at hl hm
    have hab : a = b := by
      have h1 := (h a).1 (by simp)
      have h2 := (h b).2 (by simp)
      rw [List.mem_cons] at h1 h2
      rcases h1 with h1 | h1
      · exact h1
      · rcases h2 with h2 | h2
        · exact h2.symm
        · exact absurd (hl.1 b h2) (has _ _ (hm.1 a h1))
    subst hab
    rw [strict_eq hir has hl.2 hm.2 fun x => ⟨fun hx => ?_, fun hx => ?_⟩]
    · have h1 := (h x).1 (by simp [hx])
      rw [List.mem_cons] at h1
      rcases h1 with h1 | h1
      · subst h1; exact absurd (hl.1 x hx) (hir x)
      · exact h1
    · have h1 := (h x).2 (by simp [hx])
      rw [List.mem_cons] at h1
      rcases h1 with h1 | h1
      · subst h1; exact absurd (hm.1 x hx) (hir x)
      · exact h1

/-! ## the order of cells -/
def ltS (a b : Sp) : Prop := a.y < b.y ∨ (a.y = b.y ∧ a.x < b.x)
def cmS (a b : Sp) : Int := if a.y = b.y then a.x - b.x else a.y - b.y
theorem ltOf_cmS (a b : Sp) : ltOf cmS a b = true ↔ ltS a b := by
  unfold ltOf cmS ltS; rw [decide_eq_true_iff]; split <;> omega
theorem ltOf_cmS0 (a b : Sp) : ltOf cmS a b = false ↔ ¬ ltS a b := by
  rw [← ltOf_cmS]; cases ltOf cmS a b <;> simp
theorem swoS : SWO (ltOf cmS) where
  irrefl x := by rw [ltOf_cmS0]; unfold ltS; omega
  trans x y z h1 h2 := by rw [ltOf_cmS] at *; unfold ltS at *; omega
  ntrans x y z h1 h2 := by rw [ltOf_cmS0] at *; unfold ltS at *; omega
theorem ltS_ir (a : Sp) : ¬ ltS a a := by unfold ltS; omega
theorem ltS_as (a b : Sp) (h : ltS a b) : ¬ ltS b a := by unfold ltS at *; omega
theorem ltS_ne {a b : Sp} (h : ¬ ltS a b) (hne : a ≠ b) : ltS b a := by
  obtain ⟨x, y⟩ := a; obtain ⟨u, v⟩ := b
  unfold ltS at *; simp only at *
  by_cases h1 : y = v
  · subst h1
    have : x ≠ u := fun e => hne (by rw [e])
    omega
  · omega
theorem ltS_tr {a b c : Sp} (h : ltS a b) (h' : ltS b c) : ltS a c := by unfold ltS at *; omega
theorem leS_tr {a b c : Sp} (h : ¬ ltS b a) (h' : ltS b c) : ltS a c := by unfold ltS at *; omega

/-! ## the order of hurdles -/
/-! ## what the sort's contract says, at lists -/
theorem sorted_list {α : Type} [Inhabited α] {lt : α → α → Bool} {d : Array α} {n : Nat} (hn : d.size = n) (h : SortedIn lt 0 n d) : d.toList.Pairwise fun a b => lt b a = false := by
  rw [List.pairwise_iff_getElem]
  intro i j hi hj hij
  have h1 := h i j (Nat.zero_le _) hij (by simp at hj; omega)
  rw [getElem!_pos d i (by simpa using hi), getElem!_pos d j (by simpa using hj)] at h1
  simpa using h1
theorem perm_list {α : Type} [Inhabited α] {d d' : Array α} (h : PermIn 0 d.size d d') : d'.toList.Perm d.toList := by
  have h1 := h.2.2
  rw [← h.1] at h1
  conv at h1 => rhs; rw [h.1]
  simpa using h1

/-! ## each cell once -/
def cpF (l : List Sp) : List Sp := l.foldl (fun o a => if o.getLast? = some a then o else o ++ [a]) []
theorem cpF_snoc (l : List Sp) (a : Sp) : cpF (l ++ [a]) = if (cpF l).getLast? = some a then cpF l else cpF l ++ [a] := by unfold cpF; rw [List.foldl_append]; rfl
theorem cpF_last (l : List Sp) : (cpF l).getLast? = l.getLast? := by
  rcases List.eq_nil_or_concat l with rfl | ⟨m, a, rfl⟩
  · rfl
  · rw [List.concat_eq_append, cpF_snoc]
    split
    · rename_i h; rw [h]; simp
    · simp
theorem cpF_mem : ∀ (m : Nat) (l : List Sp), l.length = m → ∀ x, x ∈ cpF l ↔ x ∈ l
  | 0, l, h, x => by rw [List.length_eq_zero_iff.1 h]; rfl
  | m + 1, l, h, x => by
    rcases List.eq_nil_or_concat l with rfl | ⟨k, a, rfl⟩
    · rfl
    · rw [List.concat_eq_append] at h ⊢
      have ih := cpF_mem m k (by simpa using h)
      rw [cpF_snoc]
      split
      · rename_i hl
        rw [List.mem_append, ih, List.mem_singleton]
        refine ⟨Or.inl, fun hx => hx.elim id fun e => ?_⟩
        subst e
        exact (ih x).1 (List.mem_of_getLast? hl)
      · rw [List.mem_append, List.mem_append, ih]
theorem cpF_len (l : List Sp) : (cpF l).length ≤ l.length := by
  suffices h : ∀ (m : Nat) (l : List Sp), l.length = m → (cpF l).length ≤ m by exact h _ _ rfl
  intro m
  induction m with
  | zero => intro l h; rw [List.length_eq_zero_iff.1 h]; simp [cpF]
  | succ m ih =>
    intro l h
    rcases List.eq_nil_or_concat l with rfl | ⟨k, a, rfl⟩
    · simp [cpF]
    · rw [List.concat_eq_append] at h ⊢
      have := ih k (by simpa using h)
      rw [cpF_snoc]; split <;> simp <;> omega
theorem cpF_strict : ∀ (m : Nat) (l : List Sp), l.length = m → (l.Pairwise fun a b => ¬ ltS b a) → (cpF l).Pairwise ltS
  | 0, l, h, _ => by rw [List.length_eq_zero_iff.1 h]; exact List.Pairwise.nil
  | m + 1, l, h, hs => by
    rcases List.eq_nil_or_concat l with rfl | ⟨k, a, rfl⟩
    · exact List.Pairwise.nil
    · rw [List.concat_eq_append] at h hs ⊢
      rw [List.pairwise_append] at hs
      obtain ⟨hk, _, hka⟩ := hs
      have ih := cpF_strict m k (by simpa using h) hk
      rw [cpF_snoc]
      split
      · exact ih
      · rename_i hl
        rw [List.pairwise_append]
        refine ⟨ih, by simp, fun x hx b hb => ?_⟩
        rw [List.mem_singleton] at hb
        subst hb
        rw [cpF_last] at hl
        have hxk := (cpF_mem _ k rfl x).1 hx
        rcases List.eq_nil_or_concat k with rfl | ⟨j, c, rfl⟩
        · simp at hxk
        · rw [List.concat_eq_append] at *
          have hca : c ≠ b := fun e => hl (by simp [e])
          have hcb := ltS_ne (hka c (by simp) b (by simp)) (fun e => hca e.symm)
          rw [List.mem_append, List.mem_singleton] at hxk
          rcases hxk with hxj | rfl
          · exact leS_tr ((List.pairwise_append.1 hk).2.2 x hxj c (by simp)) hcb
          · exact hcb
theorem cpF_at {l : List Sp} {j : Nat} {r s : Sp} (h0 : l[j]? = some r) (h1 : l[j + 1]? = some s) : cpF (l.take (j + 2)) = if s = r then cpF (l.take (j + 1)) else cpF (l.take (j + 1)) ++ [s] := by
  have e : l.take (j + 2) = l.take (j + 1) ++ [s] := by rw [List.take_add_one, h1]; rfl
  have hl : (l.take (j + 1)).getLast? = some r := by rw [List.take_add_one, h0]; simp
  rw [e, cpF_snoc, cpF_last, hl]
  by_cases h : s = r
  · subst h; simp
  · rw [if_neg (fun e => h (Option.some.inj e).symm), if_neg h]
theorem cpF_prefix : ∀ (m l : List Sp), ∃ t, cpF (l ++ m) = cpF l ++ t
  | [], l => ⟨[], by simp⟩
  | a :: m, l => by
    obtain ⟨t, ht⟩ := cpF_prefix m (l ++ [a])
    rw [List.append_assoc, List.singleton_append] at ht
    rw [ht, cpF_snoc]
    split
    · exact ⟨t, rfl⟩
    · exact ⟨a :: t, by simp⟩
theorem cpF_kept {l : List Sp} {j : Nat} {r s : Sp} (h0 : l[j]? = some r) (h1 : l[j + 1]? = some s) (hne : s ≠ r) : (cpF l)[(cpF (l.take (j + 1))).length]? = some s := by
  obtain ⟨t, ht⟩ := cpF_prefix (l.drop (j + 2)) (l.take (j + 2))
  rw [List.take_append_drop, cpF_at h0 h1, if_neg hne] at ht
  rw [ht, List.append_assoc, List.getElem?_append_right (Nat.le_refl _), Nat.sub_self]; rfl
theorem cpF_clean {l : List Sp} : ∀ {k : Nat}, (∀ j r s, j + 1 < k → l[j]? = some r → l[j + 1]? = some s → s ≠ r) → cpF (l.take k) = l.take k
  | 0, _ => by simp [cpF]
  | 1, _ => by
    cases l with
    | nil => rfl
    | cons a l => rfl
  | k + 2, h => by
    have ih := cpF_clean (l := l) (k := k + 1) fun j r s hj => h j r s (by omega)
    cases h1 : l[k + 1]? with
    | none => rw [List.take_add_one, h1]; simpa using ih
    | some s =>
      obtain ⟨r, h0⟩ : ∃ r, l[k]? = some r := ⟨_, List.getElem?_eq_getElem (by have := (List.getElem?_eq_some_iff.1 h1).1; omega)⟩
      rw [cpF_at h0 h1, if_neg (h k r s (by omega) h0 h1), ih]
      rw [List.take_add_one (i := k + 1), h1]; rfl
/-- the cells of a list, in order, each once -/
def ordL (L : List Sp) : List Sp := (allL 10 10).filter fun c => decide (c ∈ L)
theorem allL_lt (W H : Nat) : (allL W H).Pairwise ltS := by
  unfold allL
  rw [List.pairwise_map]
  refine List.Pairwise.imp ?_ List.pairwise_lt_range
  intro a b h
  unfold ltS cellN
  simp only
  by_cases h1 : a / W = b / W
  · right
    have e1 := Nat.div_add_mod a W
    have e2 := Nat.div_add_mod b W
    rw [h1] at e1
    refine ⟨by rw [h1], ?_⟩
    omega
  · left
    have := Nat.div_le_div_right (c := W) (Nat.le_of_lt h)
    omega
theorem ordL_mem {L : List Sp} (h : ∀ s ∈ L, inR s) (c : Sp) : c ∈ ordL L ↔ c ∈ L := by
  unfold ordL
  rw [List.mem_filter, decide_eq_true_iff]
  refine ⟨fun h => h.2, fun hc => ⟨?_, hc⟩⟩
  rw [← cellN_ci (h c hc)]
  exact List.mem_map.2 ⟨ci c, List.mem_range.2 (ci_lt (h c hc)), rfl⟩
theorem ordL_lt (L : List Sp) : (ordL L).Pairwise ltS := (allL_lt 10 10).filter _
theorem ordL_len (L : List Sp) : (ordL L).length ≤ 100 := Nat.le_trans (List.length_filter_le _ _) (by simp [allL])
/-- a sorted list, each cell once, is the list in order -/
theorem ord_of {L M : List Sp} (hin : ∀ s ∈ L, inR s) (hp : M.Perm L) (hs : M.Pairwise fun a b => ltOf cmS b a = false) : cpF M = ordL L :=
  strict_eq ltS_ir ltS_as (cpF_strict _ M rfl (hs.imp fun h => (ltOf_cmS0 _ _).1 h)) (ordL_lt L) fun x => by rw [cpF_mem _ M rfl, hp.mem_iff, ordL_mem hin]

/-! ## the open sides of cells -/
def hAt (h : Hd) : Sp := ⟨h.x, h.y⟩
def hOth (h : Hd) : Sp := ⟨nextX h.x (sdOf h.s), nextY h.y (sdOf h.s)⟩
/-- the sides of a cell to cells that are not in the list -/
def hdA (s : Sp) (k : Nat) : Hd := ⟨hdX s.x k, hdY s.y k, hdS k⟩
def nxA (s : Sp) (k : Nat) : Sp := ⟨nextX s.x k, nextY s.y k⟩
theorem hdA_ends (s : Sp) (k : Nat) (hk : k < 4) : (hAt (hdA s k) = s ∧ hOth (hdA s k) = nxA s k) ∨ (hAt (hdA s k) = nxA s k ∧ hOth (hdA s k) = s) := by
  obtain ⟨x, y⟩ := s
  match k, hk with
  | 0, _ => right; simp [hdA, nxA, hAt, hOth, hdX, hdY, hdS, nextX, nextY, sdOf]
  | 1, _ => left; simp [hdA, nxA, hAt, hOth, hdX, hdY, hdS, nextX, nextY, sdOf]
  | 2, _ => left; simp [hdA, nxA, hAt, hOth, hdX, hdY, hdS, nextX, nextY, sdOf]
  | 3, _ => right; simp [hdA, nxA, hAt, hOth, hdX, hdY, hdS, nextX, nextY, sdOf]
end Go.Proofs.Ytnafnhpajkhgkaa
