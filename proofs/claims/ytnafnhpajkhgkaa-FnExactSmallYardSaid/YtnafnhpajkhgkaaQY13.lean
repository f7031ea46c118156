import Derived.Test.YtnafnhpajkhgkaaQY02
import Derived.Test.YtnafnhpajkhgkaaQY12
/- Steps over open sides: a table and a queue, in plain Lean. No condition. -/
namespace Go.Proofs.Ytnafnhpajkhgkaa
set_option linter.unusedVariables false
set_option linter.unusedSimpArgs false

/-- the place of a cell in a table of 10 by 10 -/
def ci (c : Sp) : Nat := c.y.toNat * 10 + c.x.toNat
def inR (c : Sp) : Prop := 0 ≤ c.x ∧ c.x < 10 ∧ 0 ≤ c.y ∧ c.y < 10
theorem ci_lt {c : Sp} (h : inR c) : ci c < 100 := by unfold ci inR at *; omega
theorem ci_inj {c d : Sp} (hc : inR c) (hd : inR d) (h : ci c = ci d) : c = d := by
  obtain ⟨x, y⟩ := c; obtain ⟨u, v⟩ := d
  unfold ci inR at *; simp only at *
  have h1 : x = u := by omega
  have h2 : y = v := by omega
  rw [h1, h2]
/-- a table and a queue -/
abbrev Bq := (Nat → Int) × List Sp
/-- one neighbour of s is looked at -/
def relC (s : Sp) (q : Bq) (c : Sp) : Bq := if q.1 (ci c) = 0 then (upd q.1 (ci c) (q.1 (ci s) + 1), q.2 ++ [c]) else q
def visit (nb : Sp → List Sp) (s : Sp) (q : Bq) : Bq := (nb s).foldl (relC s) q
/-- the state when the first i of the queue have been visited -/
def bfsN (nb : Sp → List Sp) (q0 : Bq) : Nat → Bq
  | 0 => q0
  | i + 1 => match (bfsN nb q0 i).2[i]? with
    | none => bfsN nb q0 i
    | some s => visit nb s (bfsN nb q0 i)
theorem bfsN_end {nb : Sp → List Sp} {q0 : Bq} {i : Nat} (h : (bfsN nb q0 i).2.length ≤ i) (m : Nat) : bfsN nb q0 (i + m) = bfsN nb q0 i := by
  induction m with
  | zero => rfl
  | succ m ih =>
    show bfsN nb q0 ((i + m) + 1) = _
    rw [bfsN, ih, List.getElem?_eq_none (by omega)]
theorem bfsN_step {nb : Sp → List Sp} {q0 : Bq} {i : Nat} {s : Sp} (h : (bfsN nb q0 i).2[i]? = some s) : bfsN nb q0 (i + 1) = visit nb s (bfsN nb q0 i) := by
  rw [bfsN, h]
/-- ways over neighbours -/
inductive Way (nb : Sp → List Sp) (a : Sp → Prop) : Sp → Prop
  | start {c : Sp} : a c → Way nb a c
  | step {c d : Sp} : Way nb a c → d ∈ nb c → Way nb a d
structure BI (nb : Sp → List Sp) (a : List Sp) (q : Bq) : Prop where
  tail : ∃ t, q.2 = a ++ t ∧ t.Nodup ∧ ∀ c ∈ t, c ∉ a
  inr : ∀ c ∈ q.2, inR c
  pos : ∀ c ∈ q.2, 1 ≤ q.1 (ci c)
  le : ∀ j, 0 ≤ q.1 j ∧ q.1 j + a.length ≤ 1 + q.2.length
  zero : ∀ c, inR c → q.1 (ci c) ≠ 0 → c ∈ q.2
  way : ∀ c ∈ q.2, Way nb (· ∈ a) c
theorem BI.rel {nb : Sp → List Sp} {a : List Sp} {q : Bq} (h : BI nb a q) {s c : Sp} (hs : s ∈ q.2) (hc : inR c) (hn : c ∈ nb s) : BI nb a (relC s q c) := by
  unfold relC
  split
  case isFalse => exact h
  case isTrue hz =>
    have hnew : c ∉ q.2 := fun hm => by have := h.pos c hm; omega
    obtain ⟨t, ht, hd, hat⟩ := h.tail
    refine ⟨⟨t ++ [c], by simp [ht], ?_, ?_⟩, ?_, ?_, ?_, ?_, ?_⟩
    · rw [List.nodup_append]
      refine ⟨hd, by simp, ?_⟩
      intro x hx y hy
      simp at hy; subst hy
      intro e; subst e
      exact hnew (by rw [ht]; simp [hx])
    · intro d hd'
      rcases List.mem_append.1 hd' with h1 | h1
      · exact hat d h1
      · simp at h1; subst h1; exact fun hm => hnew (by rw [ht]; simp [hm])
    · intro d hd'
      rcases List.mem_append.1 hd' with h1 | h1
      · exact h.inr d h1
      · simp at h1; subst h1; exact hc
    · intro d hd'
      show 1 ≤ upd q.1 (ci c) _ (ci d)
      have hs0 := (h.le (ci s)).1
      rcases List.mem_append.1 hd' with h1 | h1
      · unfold upd; split
        · omega
        · exact h.pos d h1
      · simp at h1; subst h1; rw [upd_at]; omega
    · intro j
      show 0 ≤ upd q.1 (ci c) _ j ∧ upd q.1 (ci c) _ j + _ ≤ 1 + ((q.2 ++ [c]).length : Int)
      have h1 := h.le (ci s); have h2 := h.le j
      simp only [List.length_append, List.length_singleton]
      unfold upd; split <;> omega
    · intro d hd' hne
      show d ∈ q.2 ++ [c]
      by_cases e : ci d = ci c
      · have := ci_inj hd' hc e; subst this; simp
      · have hne' : upd q.1 (ci c) (q.1 (ci s) + 1) (ci d) ≠ 0 := hne
        rw [upd_ne _ _ e] at hne'
        exact List.mem_append.2 (.inl (h.zero d hd' hne'))
    · intro d hd'
      rcases List.mem_append.1 hd' with h1 | h1
      · exact h.way d h1
      · simp at h1; subst h1; exact .step (h.way s hs) hn
theorem relC_mem {s : Sp} {q : Bq} {c d : Sp} (h : d ∈ q.2) : d ∈ (relC s q c).2 := by
  unfold relC; split
  · exact List.mem_append.2 (.inl h)
  · exact h
theorem relC_get {s : Sp} {q : Bq} {c : Sp} {i : Nat} {d : Sp} (h : q.2[i]? = some d) : (relC s q c).2[i]? = some d := by
  unfold relC; split
  · show (q.2 ++ [c])[i]? = some d
    rw [List.getElem?_append_left (List.getElem?_eq_some_iff.1 h).1]; exact h
  · exact h
theorem relC_len (s : Sp) (q : Bq) (c : Sp) : q.2.length ≤ (relC s q c).2.length ∧ (relC s q c).2.length ≤ q.2.length + 1 := by
  unfold relC; split <;> simp
theorem relC_set {s : Sp} {q : Bq} {c : Sp} (hq : ∀ j, 0 ≤ q.1 j) : (relC s q c).1 (ci c) ≠ 0 := by
  unfold relC; split
  · show upd _ _ _ _ ≠ 0; rw [upd_at]; have := hq (ci s); omega
  · assumption
theorem relC_old {s : Sp} {q : Bq} {c : Sp} {j : Nat} (h : q.1 j ≠ 0) : (relC s q c).1 j = q.1 j := by
  unfold relC; split
  · show upd _ _ _ _ = _; rw [upd_ne _ _ (by intro e; subst e; contradiction)]
  · rfl
theorem fold_old {s : Sp} {j : Nat} : ∀ (l : List Sp) (q : Bq), q.1 j ≠ 0 → (l.foldl (relC s) q).1 j = q.1 j
  | [], q, _ => rfl
  | c :: l, q, h => by rw [List.foldl_cons, fold_old l _ (by rw [relC_old h]; exact h), relC_old h]
theorem fold_get {s : Sp} {i : Nat} {d : Sp} : ∀ (l : List Sp) (q : Bq), q.2[i]? = some d → (l.foldl (relC s) q).2[i]? = some d
  | [], q, h => h
  | c :: l, q, h => by rw [List.foldl_cons]; exact fold_get l _ (relC_get h)
theorem fold_len {s : Sp} : ∀ (l : List Sp) (q : Bq), q.2.length ≤ (l.foldl (relC s) q).2.length
  | [], q => Nat.le_refl _
  | c :: l, q => by rw [List.foldl_cons]; exact Nat.le_trans (relC_len s q c).1 (fold_len l _)
theorem BI.fold {nb : Sp → List Sp} {a : List Sp} {s : Sp} : ∀ (l : List Sp) (q : Bq), BI nb a q → s ∈ q.2 → (∀ c ∈ l, inR c ∧ c ∈ nb s) → BI nb a (l.foldl (relC s) q)
  | [], q, h, _, _ => h
  | c :: l, q, h, hs, hl => by
    rw [List.foldl_cons]
    exact BI.fold l _ (h.rel hs (hl c (by simp)).1 (hl c (by simp)).2) (relC_mem hs) fun d hd => hl d (by simp [hd])
theorem fold_set {s : Sp} : ∀ (l : List Sp) (q : Bq), (∀ j, 0 ≤ q.1 j) → ∀ c ∈ l, (l.foldl (relC s) q).1 (ci c) ≠ 0
  | [], q, _, c, hc => by cases hc
  | d :: l, q, h, c, hc => by
    rw [List.foldl_cons]
    have h' : ∀ j, 0 ≤ (relC s q d).1 j := by
      intro j; unfold relC; split
      · show 0 ≤ upd _ _ _ _; have := h (ci s); unfold upd; split
        · omega
        · exact h j
      · exact h j
    rcases List.mem_cons.1 hc with e | e
    · subst e
      have hne := relC_set (s := s) (c := c) h
      rw [fold_old l _ hne]; exact hne
    · exact fold_set l _ h' c e
/-- The neighbours are in range. -/
def NbOk (nb : Sp → List Sp) : Prop := ∀ s c, c ∈ nb s → inR c
theorem BI.bfs {nb : Sp → List Sp} {a : List Sp} {q0 : Bq} (h : BI nb a q0) (hnb : NbOk nb) : ∀ i, BI nb a (bfsN nb q0 i)
  | 0 => h
  | i + 1 => by
    have ih := BI.bfs h hnb i
    rw [bfsN]
    split
    · exact ih
    · rename_i s hs
      exact BI.fold (nb s) _ ih (List.mem_of_getElem? hs) fun c hc => ⟨hnb s c hc, hc⟩
/-- What the visited ones lead to is in the table. -/
theorem bfs_done {nb : Sp → List Sp} {a : List Sp} {q0 : Bq} (h : BI nb a q0) (hnb : NbOk nb) : ∀ (i j : Nat) (s c : Sp), j < i → (bfsN nb q0 i).2[j]? = some s → c ∈ nb s → (bfsN nb q0 i).1 (ci c) ≠ 0
  | 0, j, s, c, hj, _, _ => by omega
  | i + 1, j, s, c, hj, hs, hc => by
    have ih := BI.bfs h hnb i
    rw [bfsN] at hs ⊢
    cases hi : (bfsN nb q0 i).2[i]? with
    | none =>
      rw [hi] at hs
      simp only at hs ⊢
      have hlt := (List.getElem?_eq_some_iff.1 hs).1
      have := List.getElem?_eq_none_iff.1 hi
      exact bfs_done h hnb i j s c (by omega) hs hc
    | some s' =>
      rw [hi] at hs
      simp only at hs ⊢
      have hlt : i < (bfsN nb q0 i).2.length := (List.getElem?_eq_some_iff.1 hi).1
      by_cases e : j = i
      · subst e
        have := fold_get (s := s') (nb s') _ hi
        unfold visit at hs
        rw [this] at hs; injection hs with hs; subst hs
        exact fold_set (nb s') _ (fun j => (ih.le j).1) c hc
      · have hj' : (bfsN nb q0 i).2[j]? = some s := by
          have hx : (bfsN nb q0 i).2[j]? = some (bfsN nb q0 i).2[j] := List.getElem?_eq_getElem (by omega)
          have := fold_get (s := s') (nb s') _ hx
          unfold visit at hs
          rw [this] at hs; rw [hx]; exact hs
        have := bfs_done h hnb i j s c (by omega) hj' hc
        unfold visit
        rw [fold_old _ _ this]; exact this
theorem nodup_len {t : List Sp} (hd : t.Nodup) (hr : ∀ c ∈ t, inR c) : t.length ≤ 100 := by
  have h1 : (t.map ci).Nodup := by
    rw [List.nodup_iff_pairwise_ne, List.pairwise_map]
    refine List.Pairwise.imp_of_mem ?_ (List.nodup_iff_pairwise_ne.1 hd)
    intro x y hx hy hne e
    exact hne (ci_inj (hr x hx) (hr y hy) e)
  have h2 : (t.map ci) ⊆ List.range 100 := by
    intro j hj
    obtain ⟨c, hc, rfl⟩ := List.mem_map.1 hj
    exact List.mem_range.2 (ci_lt (hr c hc))
  have h3 : ∀ (n : Nat) (l : List Nat), l.Nodup → (∀ j ∈ l, j < n) → l.length ≤ n := by
    intro n
    induction n with
    | zero => intro l _ hl; cases l with
      | nil => simp
      | cons a l => have := hl a (by simp); omega
    | succ n ih =>
      intro l hnd hl
      have h4 := ih (l.filter (· ≠ n)) (hnd.filter _) (fun j hj => by
        have hj' := List.mem_filter.1 hj
        have := hl j hj'.1
        have h5 : j ≠ n := by simpa using hj'.2
        omega)
      have h6 : l.length ≤ (l.filter (· ≠ n)).length + 1 := by
        clear ih hl h4
        induction l with
        | nil => simp
        | cons a l ihl =>
          have hnd' := List.nodup_cons.1 hnd
          by_cases e : a = n
          · subst e
            have : l.filter (· ≠ a) = l := List.filter_eq_self.2 fun j hj => by
              have : j ≠ a := fun e => hnd'.1 (e ▸ hj)
              simpa using this
            rw [List.filter_cons, this]; simp
          · have := ihl hnd'.2
            rw [List.filter_cons_of_pos (by simpa using e)]; simp only [List.length_cons] at this ⊢; omega
      omega
  have := h3 100 (t.map ci) h1 (fun j hj => List.mem_range.1 (h2 hj))
  simpa using this
theorem BI.len {nb : Sp → List Sp} {a : List Sp} {q : Bq} (h : BI nb a q) : a.length ≤ q.2.length ∧ q.2.length ≤ a.length + 100 := by
  obtain ⟨t, ht, hd, _⟩ := h.tail
  have := nodup_len hd fun c hc => h.inr c (by rw [ht]; simp [hc])
  rw [ht]; simp; omega
theorem BI.val {nb : Sp → List Sp} {a : List Sp} {q : Bq} (h : BI nb a q) (j : Nat) : 0 ≤ q.1 j ∧ q.1 j ≤ 101 := by
  have := h.le j; have := h.len; omega
/-- the end -/
def bfs (nb : Sp → List Sp) (q0 : Bq) (a : List Sp) : Bq := bfsN nb q0 (a.length + 100)
theorem bfs_stop {nb : Sp → List Sp} {a : List Sp} {q0 : Bq} (h : BI nb a q0) (hnb : NbOk nb) {i : Nat} (hi : (bfsN nb q0 i).2.length ≤ i) : bfs nb q0 a = bfsN nb q0 i := by
  have h1 := (BI.bfs h hnb i).len
  unfold bfs
  by_cases hle : i ≤ a.length + 100
  · have := bfsN_end hi (a.length + 100 - i)
    rw [show i + (a.length + 100 - i) = a.length + 100 by omega] at this; exact this
  · have h2 : (bfsN nb q0 (a.length + 100)).2.length ≤ a.length + 100 := (BI.bfs h hnb _).len.2
    have := bfsN_end h2 (i - (a.length + 100))
    rw [show a.length + 100 + (i - (a.length + 100)) = i by omega] at this; exact this.symm
theorem bfs_bi {nb : Sp → List Sp} {a : List Sp} {q0 : Bq} (h : BI nb a q0) (hnb : NbOk nb) : BI nb a (bfs nb q0 a) := BI.bfs h hnb _
theorem bfs_closed {nb : Sp → List Sp} {a : List Sp} {q0 : Bq} (h : BI nb a q0) (hnb : NbOk nb) {s c : Sp} (hs : s ∈ (bfs nb q0 a).2) (hc : c ∈ nb s) : c ∈ (bfs nb q0 a).2 := by
  obtain ⟨j, hj⟩ := List.mem_iff_getElem?.1 hs
  have h2 := (bfs_bi h hnb).len
  have hlt := Nat.lt_of_lt_of_le (List.getElem?_eq_some_iff.1 hj).1 h2.2
  refine (bfs_bi h hnb).zero c (hnb s c hc) ?_
  unfold bfs at hj ⊢
  generalize a.length + 100 = N at *
  exact bfs_done h hnb N j s c hlt hj hc
/-- the beginning -/
def tab1 (a : List Sp) : Nat → Int := a.foldl (fun D c => upd D (ci c) 1) fun _ => 0
theorem tab1_val : ∀ (a : List Sp) (D : Nat → Int) (j : Nat), (a.foldl (fun D c => upd D (ci c) 1) D) j = if j ∈ a.map ci then 1 else D j
  | [], D, j => by simp
  | c :: a, D, j => by
    rw [List.foldl_cons, tab1_val a]
    by_cases h : j ∈ a.map ci
    · simp [h]
    · rw [if_neg h]; unfold upd
      by_cases e : j = ci c
      · simp [e]
      · rw [if_neg e, if_neg (by simp only [List.map_cons, List.mem_cons, not_or]; exact ⟨e, h⟩)]
theorem tab1_at (a : List Sp) (j : Nat) : tab1 a j = if j ∈ a.map ci then 1 else 0 := tab1_val a _ j
theorem bi0 {nb : Sp → List Sp} {a : List Sp} (ha : ∀ c ∈ a, inR c) : BI nb a (tab1 a, a) := by
  refine ⟨⟨[], by simp, by simp, by simp⟩, ha, ?_, ?_, ?_, fun c hc => .start hc⟩
  · intro c hc
    show 1 ≤ tab1 a (ci c)
    rw [tab1_at, if_pos (List.mem_map_of_mem hc)]; omega
  · intro j
    show 0 ≤ tab1 a j ∧ tab1 a j + _ ≤ 1 + (a.length : Int)
    rw [tab1_at]; split <;> omega
  · intro c hc hne
    show c ∈ a
    have hne' : tab1 a (ci c) ≠ 0 := hne
    rw [tab1_at] at hne'
    split at hne'
    · rename_i hm
      obtain ⟨d, hd, e⟩ := List.mem_map.1 hm
      have := ci_inj (ha d hd) hc e
      subst this; exact hd
    · exact absurd rfl hne'
/-- the cells beside a cell -/
def nbP (p : Nat → Int) (s : Sp) : List Sp := besL p s.x s.y 4
theorem besL_inR {p : Nat → Int} {x y : Int} {c : Sp} : ∀ {k : Nat}, c ∈ besL p x y k → isC (p 0) (p 1) c.x c.y = true
  | 0, h => by simp [besL] at h
  | k + 1, h => by
    cases hc : canB p x y (k : Int)
    · rw [besL_no hc] at h; exact besL_inR h
    · rw [besL_yes hc] at h
      rcases List.mem_append.1 h with h | h
      · exact besL_inR h
      · simp at h; subst h
        unfold canB at hc; simp only [Bool.and_eq_true] at hc; exact hc.1
theorem nbP_ok (p : Nat → Int) : NbOk (nbP p) := fun s c hc => isC_range (besL_inR hc)
/-- A table of 100 numbers of kind k, each less by o. -/
structure GI (k : IntKind) (o : Int) (D : Nat → Int) (cs : Array Value) : Prop where
  size : cs.size = 100
  get : ∀ j, j < 100 → cs[j]? = some (.int k (D j - o))
theorem GI.set {k : IntKind} {o : Int} {D : Nat → Int} {cs : Array Value} (h : GI k o D cs) {i : Nat} (hi : i < 100) (v : Int) : GI k o (upd D i v) (cs.setIfInBounds i (.int k (v - o))) := by
  refine ⟨by simp [h.size], fun j hj => ?_⟩
  by_cases e : j = i
  · subst e; rw [upd_at]; have := h.size; simp [this, hj]
  · rw [upd_ne _ _ e, Array.getElem?_setIfInBounds_ne (by omega)]; exact h.get j hj
theorem GI.uniq {k : IntKind} {o : Int} {D : Nat → Int} {a b : Array Value} (h : GI k o D a) (h' : GI k o D b) : a = b := by
  apply Array.ext (by rw [h.size, h'.size])
  intro i h1 h2
  have e1 := h.get i (by rw [h.size] at h1; exact h1)
  have e2 := h'.get i (by rw [h'.size] at h2; exact h2)
  rw [Array.getElem?_eq_getElem h1] at e1
  rw [Array.getElem?_eq_getElem h2] at e2
  injection e1 with e1; injection e2 with e2; rw [e1, e2]
theorem ci_at {x y : Int} : ci ⟨x, y⟩ = 0 + y.toNat * 10 + x.toNat * 1 := by unfold ci; simp
theorem GI.at_ {k : IntKind} {o : Int} {D : Nat → Int} {cs : Array Value} (h : GI k o D cs) {x y : Int} (hx : 0 ≤ x ∧ x < 10) (hy : 0 ≤ y ∧ y < 10) : cs[0 + y.toNat * 10 + x.toNat * 1]? = some (.int k (D (ci ⟨x, y⟩) - o)) := by
  rw [← ci_at]; exact h.get _ (ci_lt ⟨hx.1, hx.2, hy.1, hy.2⟩)
theorem GI.atN {k : IntKind} {o : Int} {D : Nat → Int} {cs : Array Value} (h : GI k o D cs) {x y : Nat} (hx : x < 10) (hy : y < 10) : cs[0 + y * 10 + x * 1]? = some (.int k (D (ci ⟨(x : Int), (y : Int)⟩) - o)) := by
  have e : 0 + y * 10 + x * 1 = ci ⟨(x : Int), (y : Int)⟩ := by unfold ci; simp
  rw [e]; exact h.get _ (by unfold ci; simp; omega)
theorem GI.setA {k : IntKind} {o : Int} {D : Nat → Int} {cs : Array Value} (h : GI k o D cs) {x y : Int} (hx : 0 ≤ x ∧ x < 10) (hy : 0 ≤ y ∧ y < 10) {v u : Int} (hv : v - o = u) : GI k o (upd D (ci ⟨x, y⟩) v) (cs.setIfInBounds (0 + y.toNat * 10 + x.toNat * 1) (.int k u)) := by
  subst hv; rw [← ci_at]; exact h.set (ci_lt ⟨hx.1, hx.2, hy.1, hy.2⟩) v
theorem GI.one {k : IntKind} {o : Int} {D : Nat → Int} {cs : Array Value} (h : GI k o D cs) : ∀ u ∈ cs.toList, u.oneCell' = true := by
  intro u hu
  obtain ⟨j, hj⟩ := List.mem_iff_getElem?.1 hu
  rw [Array.getElem?_toList] at hj
  have hlt := (Array.getElem?_eq_some_iff.1 hj).1
  rw [h.size] at hlt
  rw [h.get j hlt] at hj
  injection hj with hj; subst hj; rfl
theorem GI.wrap {k : IntKind} {o : Int} {D D' : Nat → Int} {cs : Array Value} (h : GI k o D cs) (he : ∀ j, j < 100 → D j = D' j) : GI k o D' cs := ⟨h.size, fun j hj => by rw [← he j hj]; exact h.get j hj⟩
/-- the table of a kind -/
def giA (k : IntKind) (o : Int) (D : Nat → Int) : Array Value := ((List.range 100).map fun j => Value.int k (D j - o)).toArray
theorem giA_ok (k : IntKind) (o : Int) (D : Nat → Int) : GI k o D (giA k o D) := by
  refine ⟨by simp [giA], fun j hj => ?_⟩
  simp [giA, hj]
/-- What steps there are from a list of cells. -/
def stepsP (p : Nat → Int) (a : List Sp) : Bq := bfs (nbP p) (tab1 a, a) a
theorem stepsP_bi (p : Nat → Int) {a : List Sp} (ha : ∀ c ∈ a, inR c) : BI (nbP p) a (stepsP p a) := bfs_bi (bi0 ha) (nbP_ok p)
theorem stepsP_val (p : Nat → Int) {a : List Sp} (ha : ∀ c ∈ a, inR c) (j : Nat) : 0 ≤ (stepsP p a).1 j ∧ (stepsP p a).1 j ≤ 101 := (stepsP_bi p ha).val j
end Go.Proofs.Ytnafnhpajkhgkaa
/- A region that draws its order: calm operations, and behind all of them a tail in order, which may write. Plain theorems; no condition. -/
namespace Go.Proofs.Ytnafnhpajkhgkaa.Wk
set_option linter.unusedVariables false
set_option linter.unusedSimpArgs false
open Go Go.RowKit Mem Calm
section
variable {P : Program} {ops : Array Oper} {md : Region.Mode} {B : Nat} {w0 : World} {pl : Nat → Plan}
def wpAnyLC (P : Program) (md : Region.Mode) (ops : Array Oper) (B : Nat) (w0 : World) (pl : Nat → Plan) (n : Nat) (Lq : Array Bool → Act → Made → Prop) : Nat → Array Bool → Act → Made → Prop
  | 0, listed, a, E => Lq listed a E
  | f + 1, listed, a, E => Region.ready md ops listed ≠ [] ∧ ∀ i ∈ Region.ready md ops listed, i < n ∧ cOp P ops B w0 pl i (wpAnyLC P md ops B w0 pl n Lq f (listed.setIfInBounds i true)) a E
theorem wpAny_of_headC {n g : Nat} {Lq : Array Bool → Act → Made → Prop} {Q' : Exit → Act → World → Prop} (hB : B ≤ w0.heap.size) (hL : ∀ listed a E w, Holds B w0 E w → Lq listed a E → wpAny P md ops Q' g listed a w) :
    ∀ (f : Nat) (listed : Array Bool) (a : Act) (E : Made) (w : World), Holds B w0 E w → wpAnyLC P md ops B w0 pl n Lq f listed a E → wpAny P md ops Q' (f + g) listed a w
  | 0, listed, a, E, w, hw, h => by rw [Nat.zero_add]; exact hL _ _ _ _ hw h
  | f + 1, listed, a, E, w, hw, h => by
    rw [show f + 1 + g = (f + g) + 1 by omega]
    exact ⟨fun h0 => absurd h0 h.1, fun i hi => wpOp_of_cOp hB hw (fun a' E' w' hw' h' => wpAny_of_headC hB hL f _ a' E' w' hw' h') (h.2 i hi).2⟩
theorem cOp_no {i : Nat} {oi : Oper} (hi : ops[i]? = some oi) (a : Act) (E : Made) (hE : Bounded E) : ¬ cOp P ops B w0 pl i (fun _ _ => False) a E := by
  intro h
  unfold cOp at h
  simp only [hi] at h
  split at h
  · generalize pl i = p at h
    match p with
    | .inl v => exact h.2
    | .inr (false, T, cs) => obtain ⟨g, g1, g2, _⟩ := hE.fresh B 0; exact h.2 g g1 g2
    | .inr (true, T, cs) => obtain ⟨_, _, _, _, _, _, _, _, _, _, h⟩ := h; exact h
  · exact h
theorem wpAnyLC_first {n i : Nat} {oi : Oper} {Lq : Array Bool → Act → Made → Prop} (hi : ops[i]? = some oi) (hsel : ∀ (j : Nat) (o : Oper) cs b, ops[j]? = some o → o.op ≠ .select cs b)
    (hs : Region.sinkB md ops n = true) (hc : Region.chainB md ops n = true) (hn : n < ops.size) (hin : i < n) (hdone : ∀ listed a E, Lq listed a E → ∀ j ∈ Region.ready md ops listed, n ≤ j) :
    ∀ (f : Nat) (listed : Array Bool) (a : Act) (E : Made), Bounded E → HeadInv md ops n listed →
      (∀ j oj, ops[j]? = some oj → j ≠ i → listed.getD j true = false → (∀ e ∈ oj.after, Region.binds md e = true → e.on ≠ i) → oi.apart ops oj = true ∧ (isStore oi = false ∨ isStore oj = false)) →
      i ∈ Region.ready md ops listed → cOp P ops B w0 pl i (wpAnyLC P md ops B w0 pl n Lq f (listed.setIfInBounds i true)) a E → wpAnyLC P md ops B w0 pl n Lq (f + 1) listed a E := by
  intro f
  induction f with
  | zero =>
    intro listed a E hE inv _ hr H
    have hun := (mem_ready.1 hr).1
    refine ⟨fun h => (by rw [h] at hr; cases hr), fun j hj => ?_⟩
    have hjn : j < n := by
      rcases Nat.lt_or_ge j n with h | h
      · exact h
      · exact absurd hj (tail_waits hs hc hn inv _ i rfl hin hun j h)
    refine ⟨hjn, ?_⟩
    by_cases hji : j = i
    · subst hji; exact H
    · exfalso
      exact cOp_no hi a E hE (cOp_mono (fun a E h => by have := hdone _ _ _ h j (ready_mono hj hji); omega) H)
  | succ f ih =>
    intro listed a E hE inv hfree hr H
    have hun := (mem_ready.1 hr).1
    refine ⟨fun h => (by rw [h] at hr; cases hr), fun j hj => ?_⟩
    have hjn : j < n := by
      rcases Nat.lt_or_ge j n with h | h
      · exact h
      · exact absurd hj (tail_waits hs hc hn inv _ i rfl hin hun j h)
    refine ⟨hjn, ?_⟩
    by_cases hji : j = i
    · subst hji; exact H
    · obtain ⟨hjun, oj, hoj, hall⟩ := mem_ready.1 hj
      have hnot : ∀ e ∈ oj.after, Region.binds md e = true → e.on ≠ i := fun e he hb heq => by
        have h1 := hall e he hb
        rw [heq, getD_both hun] at h1
        cases h1
      obtain ⟨hap, hst⟩ := hfree j oj hoj hji hjun hnot
      have h1 := cOp_mono (K' := fun a1 E1 => cOp P ops B w0 pl j (wpAnyLC P md ops B w0 pl n Lq f ((listed.setIfInBounds i true).setIfInBounds j true)) a1 E1) (fun a E h => (h.2 j (ready_mono hj hji)).2) H
      have h2 := cOp_swap hi hoj hap hst (fun cs b => hsel i oi cs b hi) (fun cs b => hsel j oj cs b hoj) hE h1
      refine cOp_mono_bounded hE (fun a' E' hE' h3 => ih (listed.setIfInBounds j true) a' E' hE' (inv.set hj hjn) ?_ (ready_mono hr (Ne.symm hji)) ?_) h2
      · intro k ok hk hki hun hno
        refine hfree k ok hk hki ?_ hno
        by_cases hjk : j = k
        · subst hjk; exact hjun
        · rw [getD_set_ne true hjk] at hun; exact hun
      · rw [Array.setIfInBounds_comm _ _ hji]
        exact h3
theorem wpAnyLC_lex {n g : Nat} {Lq : Act → Made → Prop} (hsel : Region.noSelect ops = true) (hst : storesB md ops = true) (hs : Region.sinkB md ops n = true) (hc : Region.chainB md ops n = true) (hn : n < ops.size) :
    ∀ (l : List Oper) (k : Nat) (listed : Array Bool) (a : Act) (E : Made), Bounded E → (∀ j, j < l.length → l[j]? = ops[k + j]?) → k + l.length = n → (∀ j, j < k → listed.getD j true = true) → HeadInv md ops n listed →
    Region.lexHead md ops g l.length k listed = true → wpLex P ops B w0 pl Lq l k a E →
    wpAnyLC P md ops B w0 pl n (fun listed' a' E' => Region.seqB md ops g n listed' = true ∧ Lq a' E') l.length listed a E
  | [], k, listed, a, E, _, hl, hk, _, _, hB, h => by
    have : k = n := by simpa using hk
    subst this
    exact ⟨by simpa [Region.lexHead] using hB, h⟩
  | o :: l, k, listed, a, E, hE, hl, hk, hkk, inv, hB, h => by
    have h0 : ops[k]? = some o := by simpa using (hl 0 (by simp)).symm
    simp only [List.length_cons, Region.lexHead, Bool.and_eq_true] at hB
    obtain ⟨⟨hr, hf⟩, hB'⟩ := hB
    have hkn : k < n := by simp only [List.length_cons] at hk; omega
    have hr' : k ∈ Region.ready md ops listed := by simpa using hr
    have hC : cOp P ops B w0 pl k (wpLex P ops B w0 pl Lq l (k + 1)) a E := by unfold cOp; simp only [h0]; exact h
    refine wpAnyLC_first h0 (Region.noSelect_spec hsel) hs hc hn hkn (fun listed' a' E' hL => seqB_ready hL.1) l.length listed a E hE inv (fun j oj hj hne hun hno => ⟨Region.free_spec h0 hf j oj hj hne hun hno, ?_⟩) hr' ?_
    · cases hso : isStore o with
      | false => exact .inl rfl
      | true =>
        cases hsj : isStore oj with
        | false => exact .inr rfl
        | true =>
          exfalso
          have hgt : k < j := by
            rcases Nat.lt_or_ge j k with h' | h'
            · rw [hkk j h'] at hun; cases hun
            · omega
          obtain ⟨e, he, hb, heq⟩ := storesB_spec hst h0 hj hgt hso hsj
          exact hno e he hb heq
    · refine cOp_mono_bounded hE (fun a' E' hE' h' => wpAnyLC_lex hsel hst hs hc hn l (k + 1) _ a' E' hE' (fun j hj => by have := hl (j + 1) (by simp; omega); simpa [Nat.add_assoc, Nat.add_comm 1 j] using this) (by simp only [List.length_cons] at hk; omega) (fun j hj => ?_) (inv.set hr' hkn) hB' h') hC
      by_cases hjk : j = k
      · subst hjk
        have hlt : j < listed.size := by rw [inv.size]; omega
        simp [hlt]
      · rw [getD_set_ne true (Ne.symm hjk)]; exact hkk j (by omega)
end
/-- What stands behind the tail. -/
def TailQ (P : Program) (ops : Array Oper) (Q : Exit → Act → World → Prop) (tail : List Oper) : Exit → Act → World → Prop := fun _ a w => wpList P ops Q tail a w
variable {P : Program} {n : Nat} {O : List Nat} {w0 : World} {l : List (Nat × Value)} {L : List (Nat × TypeId × Array Value)} {Q : Exit → Act → World → Prop} {ops : Array Oper}
theorem e_tail {tail : List Oper} (h : S P ops Q n O w0 tail l L) : E (TailQ P ops Q tail) n O w0 .normal l L := fun a w hF hL => h a w hF hL
theorem c_drawXT {id : Nat} {r : List Oper} (m : Nat) (pl : List Plan) (hm : P.follows .mixedOrders = true) (hB : Region.lexTailB .any r.toArray m = true) (hst : storesB .any r.toArray = true)
    (h : X P r.toArray (TailQ P r.toArray Q (r.drop m)) n O w0 (fun i => pl.getD i (.inl undef)) (r.take m) 0 l [] L) : C P Q n O w0 (.region id r.toArray true) l L := fun a w hF hL => by
  have hx := h a w (fun _ => none) hF hL ⟨by simp, fun _ hb => by cases hb⟩
  simp only [Region.lexTailB, Bool.and_eq_true, decide_eq_true_eq] at hB
  obtain ⟨⟨⟨⟨hsel, hn⟩, hs⟩, hc⟩, hlex⟩ := hB
  have hn' : m < r.length := by simpa using hn
  have htl : (r.take m).length = m := by simp; omega
  have hdl : (r.drop m).length = r.toArray.size - m := by simp
  have inv0 : HeadInv .any r.toArray m (Array.replicate r.toArray.size false) :=
    ⟨by simp, fun j oj _ hl => (by rw [getD_replicate_false] at hl; cases hl), fun t _ ht => getD_in (by simpa using ht) (getD_replicate_false _ _)⟩
  have H := wpAnyLC_lex (P := P) (B := w.heap.size) (w0 := w) (pl := fun i => pl.getD i (.inl undef)) (md := .any) (g := r.toArray.size - m) hsel hst hs hc hn (r.take m) 0 _ a (fun _ => none) ⟨0, fun _ _ => rfl⟩ (fun j hj => by
    have hj' : j < m := by rw [htl] at hj; exact hj
    simp [hj']) (by simpa using htl) (fun j hj => by omega) inv0 (by rw [htl]; exact hlex) hx
  refine wp_region_any hm ?_
  have := wpAny_of_headC (P := P) (B := w.heap.size) (w0 := w) (Q' := Q) (g := r.toArray.size - m) (Nat.le_refl _) (fun listed a' E' w' hw' hL' => by
    have := wpAny_of_seq (md := .any) (Q' := Q) (r.drop m) m listed a' w' (fun j => by simp [List.getElem?_drop]) (by rw [hdl]; exact hL'.1) (hL'.2 w' hw')
    rwa [hdl] at this) _ _ _ _ { w with drawn := w.drawn + 1 } ⟨⟨rfl, rfl, rfl, Nat.le_refl _, fun _ _ => rfl⟩, fun _ _ _ h => by cases h⟩ H
  rw [htl, show m + (r.toArray.size - m) = r.toArray.size by omega] at this
  exact this
end Go.Proofs.Ytnafnhpajkhgkaa.Wk
