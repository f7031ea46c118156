import Derived.Test.YtnafnhpajkhgkaaQY10
import Derived.Test.YtnafnhpajkhgkaaQY12
import Derived.Test.YtnafnhpajkhgkaaQY14
import Derived.Test.YtnafnhpajkhgkaaQY17
import Derived.Test.YtnafnhpajkhgkaaQY18
import Derived.Test.YtnafnhpajkhgkaaQY19
import Derived.Test.YtnafnhpajkhgkaaQY21
/- Connected cells of a size: two ways to list them, the least of them. Plain, no condition. -/
namespace Go.Proofs.Ytnafnhpajkhgkaa
set_option linter.unusedVariables false
set_option linter.unusedSimpArgs false
attribute [local irreducible] stepsP bfsN bfs
/-! ## lists without doubles -/
theorem sub_len : ∀ {l L : List Sp}, l.Nodup → (∀ c ∈ l, c ∈ L) → l.length ≤ L.length
  | [], L, _, _ => by simp
  | a :: t, L, hn, hs => by
    rw [List.nodup_cons] at hn
    have ha := hs a (by simp)
    have hp := List.perm_cons_erase ha
    have ih := sub_len (l := t) (L := L.erase a) hn.2 fun c hc => by
      have h1 := hp.mem_iff.1 (hs c (by simp [hc]))
      rcases List.mem_cons.1 h1 with e | h1
      · subst e; exact absurd hc hn.1
      · exact h1
    have := hp.length_eq
    simp only [List.length_cons] at this ⊢
    omega
theorem sub_all {l L : List Sp} (hn : l.Nodup) (hs : ∀ c ∈ l, c ∈ L) (hl : L.length ≤ l.length) : ∀ c ∈ L, c ∈ l := fun c hc => by
  by_cases h : c ∈ l
  · exact h
  · have := sub_len (l := c :: l) (L := L) (List.nodup_cons.2 ⟨h, hn⟩) fun d hd => by
      rcases List.mem_cons.1 hd with e | hd
      · subst e; exact hc
      · exact hs d hd
    simp at this; omega
theorem ordL_nodup (L : List Sp) : (ordL L).Nodup := (ordL_lt L).imp fun {a b} h e => by subst e; exact ltS_ir _ h
theorem ordL_size {L : List Sp} (hin : ∀ s ∈ L, inR s) (hn : L.Nodup) : (ordL L).length = L.length :=
  Nat.le_antisymm (sub_len (ordL_nodup L) fun c hc => (ordL_mem hin c).1 hc) (sub_len hn fun c hc => (ordL_mem hin c).2 hc)
theorem ordL_congr {L M : List Sp} (h : ∀ c, c ∈ L ↔ c ∈ M) : ordL L = ordL M := by
  unfold ordL; congr 1; funext c; rw [decide_eq_decide]; exact h c

/-! ## grown one by one -/
inductive Gro (p : Nat → Int) (s : Sp) : List Sp → Prop
  | one : Gro p s [s]
  | add {l : List Sp} {a c : Sp} : Gro p s l → a ∈ l → c ∈ nbP p a → c ∉ l → Gro p s (l ++ [c])
section
variable {p : Nat → Int} {s : Sp}
theorem Gro.mem_s {l : List Sp} (h : Gro p s l) : s ∈ l := by
  induction h with
  | one => simp
  | add _ _ _ _ ih => simp [ih]
theorem Gro.nodup {l : List Sp} (h : Gro p s l) : l.Nodup := by
  induction h with
  | one => simp
  | add _ _ _ hc ih =>
    rw [List.nodup_append]
    exact ⟨ih, by simp, fun a ha b hb e => by rw [List.mem_singleton.1 hb] at e; subst e; exact hc ha⟩
theorem Gro.cels {l : List Sp} (hs : cel p s) (h : Gro p s l) : ∀ c ∈ l, cel p c := by
  induction h with
  | one => intro c hc; rw [List.mem_singleton.1 hc]; exact hs
  | add _ _ hn _ ih =>
    intro d hd
    rcases List.mem_append.1 hd with hd | hd
    · exact ih d hd
    · rw [List.mem_singleton.1 hd]; exact nbP_cel hn
theorem Gro.edge {l A : List Sp} (h : Gro p s l) (hs : s ∈ A) (hx : ∃ x ∈ l, x ∉ A) : ∃ a d, a ∈ A ∧ d ∈ l ∧ d ∉ A ∧ d ∈ nbP p a := by
  induction h with
  | one =>
    obtain ⟨x, hx, hn⟩ := hx
    rw [List.mem_singleton.1 hx] at hn; exact absurd hs hn
  | add hg ha hc hn ih =>
    rename_i l a c
    by_cases h0 : ∃ x ∈ l, x ∉ A
    · obtain ⟨b, d, h1, h2, h3, h4⟩ := ih h0
      exact ⟨b, d, h1, by simp [h2], h3, h4⟩
    · have hall : ∀ x ∈ l, x ∈ A := fun x hx => Classical.byContradiction fun q => h0 ⟨x, hx, q⟩
      obtain ⟨x, hx, hxn⟩ := hx
      rcases List.mem_append.1 hx with hx | hx
      · exact absurd (hall x hx) hxn
      · rw [List.mem_singleton.1 hx] at hxn
        exact ⟨a, c, hall a ha, by simp, hxn, hc⟩

/-! ## the reference's list -/
def adN (q : List Sp × (Nat → Bool)) (d : Sp) : List Sp × (Nat → Bool) := if q.2 (ci d) then q else (q.1 ++ [d], fun j => q.2 j || decide (ci d = j))
def visN (p : Nat → Int) : Nat → List Sp → List Sp → (Nat → Bool) → List (List Sp)
  | 0, l, _, _ => [l]
  | n + 1, l, nx, met => (List.range nx.length).flatMap fun i => match nx[i]? with
    | none => []
    | some c => visN p n (l ++ [c]) ((nbP p c).foldl adN (nx.drop (i + 1), met)).1 ((nbP p c).foldl adN (nx.drop (i + 1), met)).2
theorem vis_mem {n : Nat} {l nx : List Sp} {met : Nat → Bool} {X : List Sp} : X ∈ visN p (n + 1) l nx met ↔ ∃ i c, nx[i]? = some c ∧ X ∈ visN p n (l ++ [c]) ((nbP p c).foldl adN (nx.drop (i + 1), met)).1 ((nbP p c).foldl adN (nx.drop (i + 1), met)).2 := by
  rw [visN, List.mem_flatMap]
  constructor
  · rintro ⟨i, _, h⟩
    cases hc : nx[i]? with
    | none => rw [hc] at h; simp at h
    | some c => rw [hc] at h; exact ⟨i, c, hc, h⟩
  · rintro ⟨i, c, hc, h⟩
    exact ⟨i, List.mem_range.2 (List.getElem?_eq_some_iff.1 hc).1, by rw [hc]; exact h⟩
theorem adN_keep : ∀ (N : List Sp) (q : List Sp × (Nat → Bool)), (∀ j, q.2 j = true → (N.foldl adN q).2 j = true) ∧ (∀ c ∈ q.1, c ∈ (N.foldl adN q).1) ∧ (∀ d ∈ N, (N.foldl adN q).2 (ci d) = true) ∧ (∀ c ∈ (N.foldl adN q).1, c ∈ q.1 ∨ c ∈ N)
  | [], q => ⟨fun _ h => h, fun _ h => h, by simp, fun _ h => .inl h⟩
  | d :: N, q => by
    obtain ⟨h1, h2, h3, h4⟩ := adN_keep N (adN q d)
    have hd : (adN q d).2 (ci d) = true ∧ (∀ j, q.2 j = true → (adN q d).2 j = true) ∧ (∀ c ∈ q.1, c ∈ (adN q d).1) ∧ (∀ c ∈ (adN q d).1, c ∈ q.1 ∨ c = d) := by
      unfold adN
      split
      · rename_i h; exact ⟨h, fun _ h => h, fun _ h => h, fun _ h => .inl h⟩
      · exact ⟨by simp, fun j h => by simp [h], fun c h => by simp [h], fun c h => by simpa using h⟩
    rw [List.foldl_cons]
    refine ⟨fun j h => h1 j (hd.2.1 j h), fun c h => h2 c (hd.2.2.1 c h), fun c hc => ?_, fun c hc => ?_⟩
    · rcases List.mem_cons.1 hc with e | hc
      · subst e; exact h1 _ hd.1
      · exact h3 c hc
    · rcases h4 c hc with h | h
      · rcases hd.2.2.2 c h with h | h
        · exact .inl h
        · exact .inr (by simp [h])
      · exact .inr (by simp [h])
theorem adN_back : ∀ (N : List Sp) (q : List Sp × (Nat → Bool)), (∀ d ∈ N, inR d) → ∀ c, inR c → (N.foldl adN q).2 (ci c) = true → q.2 (ci c) = true ∨ c ∈ (N.foldl adN q).1
  | [], q, _, c, _, h => .inl h
  | d :: N, q, hN, c, hc, h => by
    rw [List.foldl_cons] at h ⊢
    rcases adN_back N (adN q d) (fun e he => hN e (by simp [he])) c hc h with h1 | h1
    · unfold adN at h1
      split at h1
      · exact .inl h1
      · simp only [Bool.or_eq_true, decide_eq_true_eq] at h1
        rcases h1 with h1 | h1
        · exact .inl h1
        · rename_i hq
          have e := ci_inj (hN d (by simp)) hc h1
          subst e
          refine .inr ((adN_keep N (adN q d)).2.1 d ?_)
          unfold adN; rw [if_neg hq]; simp
    · exact .inr h1
theorem adN_nodup : ∀ (N : List Sp) (q : List Sp × (Nat → Bool)) (l : List Sp), (l ++ q.1).Nodup → (∀ c ∈ l ++ q.1, q.2 (ci c) = true) → (l ++ (N.foldl adN q).1).Nodup ∧ ∀ c ∈ l ++ (N.foldl adN q).1, (N.foldl adN q).2 (ci c) = true
  | [], q, l, h, hm => ⟨h, hm⟩
  | d :: N, q, l, h, hm => by
    rw [List.foldl_cons]
    refine adN_nodup N (adN q d) l ?_ ?_
    · unfold adN
      split
      · exact h
      · rename_i hq
        simp only
        rw [← List.append_assoc, List.nodup_append]
        exact ⟨h, by simp, fun a ha b hb e => by rw [List.mem_singleton.1 hb] at e; subst e; exact hq (hm _ ha)⟩
    · unfold adN
      split
      · exact hm
      · intro c hc
        simp only at hc ⊢
        rw [← List.append_assoc] at hc
        rcases List.mem_append.1 hc with hc | hc
        · simp [hm c hc]
        · rw [List.mem_singleton.1 hc]; simp
/-- what it lists is grown -/
theorem vis_snd : ∀ (n : Nat) (l nx : List Sp) (met : Nat → Bool), ((l = [] ∧ nx = [s] ∧ 0 < n) ∨ (Gro p s l ∧ ∀ c ∈ nx, ∃ a ∈ l, c ∈ nbP p a)) → (l ++ nx).Nodup → (∀ c ∈ l ++ nx, met (ci c) = true) → ∀ X ∈ visN p n l nx met, Gro p s X ∧ X.length = l.length + n
  | 0, l, nx, met, h, _, _, X, hX => by
    rw [visN, List.mem_singleton] at hX
    subst hX
    rcases h with h | h
    · omega
    · exact ⟨h.1, rfl⟩
  | n + 1, l, nx, met, h, hn, hm, X, hX => by
    obtain ⟨i, c, hc, hX⟩ := vis_mem.1 hX
    have hmem := List.mem_of_getElem? hc
    have hsp : nx.take i ++ c :: nx.drop (i + 1) = nx := by
      have hlt := (List.getElem?_eq_some_iff.1 hc).1
      rw [← (List.getElem?_eq_some_iff.1 hc).2, ← List.drop_eq_getElem_cons hlt, List.take_append_drop]
    have hdr : ∀ d ∈ nx.drop (i + 1), d ∈ nx := fun d hd => List.mem_of_mem_drop hd
    have hn1 : (l ++ [c] ++ nx.drop (i + 1)).Nodup := by
      rw [← hsp] at hn
      have : (l ++ [c] ++ nx.drop (i + 1)).Sublist (l ++ (nx.take i ++ c :: nx.drop (i + 1))) := by
        rw [List.append_assoc]
        refine List.Sublist.append (List.Sublist.refl _) ?_
        exact List.sublist_append_right _ _
      exact hn.sublist this
    have hm1 : ∀ d ∈ l ++ [c] ++ nx.drop (i + 1), met (ci d) = true := fun d hd => by
      simp only [List.mem_append, List.mem_singleton] at hd
      rcases hd with (hd | hd) | hd
      · exact hm d (by simp [hd])
      · subst hd; exact hm _ (by simp [hmem])
      · exact hm d (by simp [hdr d hd])
    have hk := adN_nodup (nbP p c) (nx.drop (i + 1), met) (l ++ [c]) hn1 hm1
    have ha := (adN_keep (nbP p c) (nx.drop (i + 1), met)).2.2.2
    have hg : Gro p s (l ++ [c]) ∧ ∀ d ∈ nx.drop (i + 1), ∃ a ∈ l ++ [c], d ∈ nbP p a := by
      rcases h with ⟨h1, h2, _⟩ | ⟨h1, h2⟩
      · subst h1; subst h2
        cases i with
        | zero => simp at hc; subst hc; exact ⟨Gro.one, by simp⟩
        | succ i => simp at hc
      · obtain ⟨a, ha1, ha2⟩ := h2 c hmem
        have hcl : c ∉ l := fun q => by
          rw [List.nodup_append] at hn
          exact hn.2.2 c q c hmem rfl
        refine ⟨Gro.add h1 ha1 ha2 hcl, fun d hd => ?_⟩
        obtain ⟨b, hb1, hb2⟩ := h2 d (hdr d hd)
        exact ⟨b, by simp [hb1], hb2⟩
    have r := vis_snd n (l ++ [c]) _ _ (.inr ⟨hg.1, fun d hd => by
      rcases ha d hd with h1 | h1
      · exact hg.2 d h1
      · exact ⟨c, by simp, h1⟩⟩) hk.1 hk.2 X hX
    refine ⟨r.1, ?_⟩
    rw [r.2]; simp; omega
theorem first_ix {P : Sp → Prop} : ∀ {nx : List Sp}, (∃ c ∈ nx, P c) → ∃ (i : Nat) (c : Sp), nx[i]? = some c ∧ P c ∧ ∀ (j : Nat) (d : Sp), j < i → nx[j]? = some d → ¬ P d
  | [], h => by obtain ⟨c, hc, _⟩ := h; cases hc
  | a :: nx, h => by
    by_cases ha : P a
    · exact ⟨0, a, rfl, ha, fun j d hj => by omega⟩
    · obtain ⟨c, hc, hp⟩ := h
      obtain ⟨i, d, h1, h2, h3⟩ := first_ix (nx := nx) ⟨c, by rcases List.mem_cons.1 hc with e | hc; subst e; exact absurd hp ha; exact hc, hp⟩
      refine ⟨i + 1, d, h1, h2, fun j e hj he => ?_⟩
      cases j with
      | zero => simp at he; subst he; exact ha
      | succ j => exact h3 j e (by omega) he
/-- all that is grown is listed -/
theorem vis_cpl (hs : cel p s) {L : List Sp} (hL : Gro p s L) : ∀ (n : Nat) (l nx : List Sp) (met : Nat → Bool), ((l = [] ∧ nx = [s]) ∨ s ∈ l) → l.Nodup → (∀ c ∈ l, c ∈ L) → (∀ a ∈ l, ∀ d ∈ nbP p a, met (ci d) = true) → (∀ c ∈ L, met (ci c) = true → c ∈ l ∨ c ∈ nx) → L.length = l.length + n → ∃ X ∈ visN p n l nx met, ∀ c, c ∈ X ↔ c ∈ L
  | 0, l, nx, met, _, hn, hsub, _, _, hlen => ⟨l, by rw [visN]; simp, fun c => ⟨hsub c, sub_all hn hsub (by omega) c⟩⟩
  | n + 1, l, nx, met, h0, hn, hsub, hnb, hmet, hlen => by
    have hex : ∃ c ∈ nx, c ∈ L ∧ c ∉ l := by
      rcases h0 with ⟨h1, h2⟩ | h0
      · subst h1; subst h2; exact ⟨s, by simp, hL.mem_s, by simp⟩
      · have hout : ∃ x ∈ L, x ∉ l := Classical.byContradiction fun q => by
          have hall : ∀ x ∈ L, x ∈ l := fun x hx => Classical.byContradiction fun q2 => q ⟨x, hx, q2⟩
          have := sub_len hL.nodup hall; omega
        obtain ⟨a, d, ha, hd, hdl, hnd⟩ := hL.edge h0 hout
        rcases hmet d hd (hnb a ha d hnd) with h1 | h1
        · exact absurd h1 hdl
        · exact ⟨d, h1, hd, hdl⟩
    obtain ⟨i, c, hc, ⟨hcL, hcl⟩, hmin⟩ := first_ix hex
    have hk := adN_keep (nbP p c) (nx.drop (i + 1), met)
    have hb := adN_back (nbP p c) (nx.drop (i + 1), met) (fun d hd => nbP_ok p _ d hd)
    obtain ⟨X, hX, hXL⟩ := vis_cpl hs hL n (l ++ [c]) ((nbP p c).foldl adN (nx.drop (i + 1), met)).1 ((nbP p c).foldl adN (nx.drop (i + 1), met)).2 (.inr (by
        rcases h0 with ⟨h1, h2⟩ | h0
        · subst h1; subst h2
          cases i with
          | zero => simp at hc; subst hc; simp
          | succ i => simp at hc
        · simp [h0])) (by
        rw [List.nodup_append]
        exact ⟨hn, by simp, fun a ha b hb e => by rw [List.mem_singleton.1 hb] at e; subst e; exact hcl ha⟩) (fun d hd => by
        rcases List.mem_append.1 hd with hd | hd
        · exact hsub d hd
        · rw [List.mem_singleton.1 hd]; exact hcL) (fun a ha d hd => by
        rcases List.mem_append.1 ha with ha | ha
        · exact hk.1 _ (hnb a ha d hd)
        · rw [List.mem_singleton.1 ha] at hd; exact hk.2.2.1 d hd) (fun d hd hm => by
        rcases hb d (isC_range (hL.cels hs d hd)) hm with h1 | h1
        · rcases hmet d hd h1 with h2 | h2
          · exact .inl (by simp [h2])
          · obtain ⟨j, hj⟩ := List.getElem?_of_mem h2
            rcases Nat.lt_trichotomy j i with hji | hji | hji
            · by_cases hdl : d ∈ l
              · exact .inl (by simp [hdl])
              · exact absurd ⟨hd, hdl⟩ (hmin j d hji hj)
            · subst hji; rw [hc] at hj; injection hj with e; subst e; exact .inl (by simp)
            · refine .inr (hk.2.1 d ?_)
              refine List.mem_of_getElem? (i := j - (i + 1)) ?_
              simp only
              rw [List.getElem?_drop, show i + 1 + (j - (i + 1)) = j by omega]; exact hj
        · exact .inr h1) (by simp; omega)
    exact ⟨X, vis_mem.2 ⟨i, c, hc, hX⟩, hXL⟩

/-! ## the program's list -/
def adS (set : List Sp) (acc : List (List Sp)) (X : List Sp) : List (List Sp) := if set.length < X.length ∧ X ∉ acc then acc ++ [X] else acc
def nxB (p : Nat → Int) (set : List Sp) (acc : List (List Sp)) (at_ : Sp) : List (List Sp) := (nbP p at_).foldl (fun acc more => adS set acc (ordL (set ++ [more]))) acc
def nxG (p : Nat → Int) (acc : List (List Sp)) (set : List Sp) : List (List Sp) := set.foldl (nxB p set) acc
def nxT (p : Nat → Int) (T : List (List Sp)) : List (List Sp) := T.foldl (nxG p) []
def setsT (p : Nat → Int) (s : Sp) : Nat → List (List Sp)
  | 0 => [[s]]
  | k + 1 => nxT p (setsT p s k)
theorem adS_mem {set X Y : List Sp} {acc : List (List Sp)} : Y ∈ adS set acc X ↔ Y ∈ acc ∨ (set.length < X.length ∧ Y = X) := by
  unfold adS
  split
  · rename_i h; simp only [List.mem_append, List.mem_singleton]
    constructor
    · rintro (h1 | h1); exact .inl h1; exact .inr ⟨h.1, h1⟩
    · rintro (h1 | h1); exact .inl h1; exact .inr h1.2
  · rename_i h
    constructor
    · exact .inl
    · rintro (h1 | ⟨h1, h2⟩)
      · exact h1
      · subst h2; exact Classical.byContradiction fun q => h ⟨h1, q⟩
theorem nxB_mem {set Y : List Sp} {at_ : Sp} : ∀ {N : List Sp} {acc : List (List Sp)}, Y ∈ N.foldl (fun acc more => adS set acc (ordL (set ++ [more]))) acc ↔ Y ∈ acc ∨ ∃ c ∈ N, set.length < (ordL (set ++ [c])).length ∧ Y = ordL (set ++ [c])
  | [], acc => by simp
  | d :: N, acc => by
    rw [List.foldl_cons, nxB_mem (at_ := at_), adS_mem]
    simp only [List.mem_cons, exists_eq_or_imp]
    rw [or_assoc]
theorem nxG_mem {set Y : List Sp} : ∀ {M : List Sp} {acc : List (List Sp)}, Y ∈ M.foldl (nxB p set) acc ↔ Y ∈ acc ∨ ∃ a ∈ M, ∃ c ∈ nbP p a, set.length < (ordL (set ++ [c])).length ∧ Y = ordL (set ++ [c])
  | [], acc => by simp
  | d :: M, acc => by
    rw [List.foldl_cons, nxG_mem, nxB, nxB_mem (at_ := d)]
    simp only [List.mem_cons, exists_eq_or_imp]
    rw [or_assoc]
theorem nxT_mem {Y : List Sp} : ∀ {T : List (List Sp)} {acc : List (List Sp)}, Y ∈ T.foldl (nxG p) acc ↔ Y ∈ acc ∨ ∃ set ∈ T, ∃ a ∈ set, ∃ c ∈ nbP p a, set.length < (ordL (set ++ [c])).length ∧ Y = ordL (set ++ [c])
  | [], acc => by simp
  | d :: T, acc => by
    rw [List.foldl_cons, nxT_mem, nxG, nxG_mem]
    simp only [List.mem_cons, exists_eq_or_imp]
    rw [or_assoc]
theorem setsT_mem (hs : cel p s) : ∀ (k : Nat) (X : List Sp), X ∈ setsT p s k ↔ ∃ l, Gro p s l ∧ l.length = k + 1 ∧ X = ordL l
  | 0, X => by
    have h1 : ordL [s] = [s] := by
      have hin : ∀ c ∈ [s], inR c := fun c hc => by rw [List.mem_singleton.1 hc]; exact isC_range hs
      refine strict_eq ltS_ir ltS_as (ordL_lt _) (by simp) fun x => ordL_mem hin x
    rw [setsT, List.mem_singleton]
    constructor
    · intro h; subst h; exact ⟨[s], Gro.one, rfl, h1.symm⟩
    · rintro ⟨l, hg, hl, e⟩
      have : l = [s] := by
        have hm := hg.mem_s
        match l, hl, hm with
        | [a], _, hm => rw [List.mem_singleton.1 hm]
      subst this; rw [e, h1]
  | k + 1, X => by
    rw [setsT, nxT, nxT_mem]
    constructor
    · rintro (h | ⟨set, hset, a, ha, c, hc, hlt, e⟩)
      · cases h
      · obtain ⟨l, hg, hl, e2⟩ := (setsT_mem hs k set).1 hset
        have hin : ∀ d ∈ l, inR d := fun d hd => isC_range (hg.cels hs d hd)
        have hml : ∀ d, d ∈ set ↔ d ∈ l := fun d => by rw [e2]; exact ordL_mem hin d
        have hcl : c ∉ l := fun q => by
          have : ordL (set ++ [c]) = set := by
            have h1 : ordL (set ++ [c]) = ordL l := ordL_congr fun d => by
              simp only [List.mem_append, List.mem_singleton, hml]
              exact ⟨fun h => by rcases h with h | h; exact h; subst h; exact q, .inl⟩
            rw [h1, ← e2]
          rw [this] at hlt; omega
        refine ⟨l ++ [c], Gro.add hg ((hml a).1 ha) hc hcl, by simp [hl], ?_⟩
        rw [e]
        exact ordL_congr fun d => by simp only [List.mem_append, hml]
    · rintro ⟨l, hg, hl, e⟩
      cases hg with
      | one => simp at hl
      | add hg ha hc hn =>
        rename_i l0 a c
        have hl0 : l0.length = k + 1 := by simpa using hl
        have hin : ∀ d ∈ l0, inR d := fun d hd => isC_range (hg.cels hs d hd)
        have hml : ∀ d, d ∈ ordL l0 ↔ d ∈ l0 := fun d => ordL_mem hin d
        have he : ordL (ordL l0 ++ [c]) = ordL (l0 ++ [c]) := ordL_congr fun d => by simp only [List.mem_append, hml]
        refine .inr ⟨ordL l0, (setsT_mem hs k _).2 ⟨l0, hg, hl0, rfl⟩, a, (hml a).2 ha, c, hc, ?_, by rw [he]; exact e⟩
        have hg2 := Gro.add hg ha hc hn
        rw [he, ordL_size hin hg.nodup, ordL_size (fun d hd => isC_range (hg2.cels hs d hd)) hg2.nodup]
        simp
end
end Go.Proofs.Ytnafnhpajkhgkaa
/- The cells that two lists have in common: the program's. No condition. -/
namespace Go.Proofs.Ytnafnhpajkhgkaa
set_option linter.unusedVariables false
set_option linter.unusedSimpArgs false
open Go.RowKit Mem Wk
attribute [local irreducible] Calls Wk.S Wk.C Wk.E Wk.X Wk.T Wk.andV Wk.shrV Calm.wpLex bfsN
theorem Wk.Ap.xy {n cap : Nat} {cur : Array Value} {l : List Sp} (h : Ap 2 n cap cur (flS l)) {i : Nat} {s : Sp} (hi : l[i]? = some s) : cur[0 + i * 2]? = some (.int .i8 s.x) ∧ cur[0 + i * 2 + 1]? = some (.int .i8 s.y) := by
  obtain ⟨h1, h2⟩ := h.spot hi
  have e0 := congrArg (fun a : Array Value => a[0]?) h2
  have e1 := congrArg (fun a : Array Value => a[1]?) h2
  simp only [Array.getElem?_extract] at e0 e1
  rw [if_pos (by omega)] at e0 e1
  exact ⟨e0, e1⟩
end Go.Proofs.Ytnafnhpajkhgkaa
/- The cell that a goat chooses: the program's. No condition. -/
namespace Go.Proofs.Ytnafnhpajkhgkaa
set_option linter.unusedVariables false
set_option linter.unusedSimpArgs false
open Go.RowKit Mem Wk
attribute [local irreducible] Calls Wk.C Wk.E Wk.X Wk.T Wk.Y Wk.andV Wk.shrV Calm.wpLex CalmB.wpLex bfsN
theorem Wk.s_gdu {P : Program} {n : Nat} {O : List Nat} {w0 : World} {l : List (Nat × Value)} {L : List (Nat × TypeId × Array Value)} {Q : Exit → Act → World → Prop} {ops : Array Oper} {rest : List Oper} {d : Nat} {op : Op} {ty : TypeId} {ps : String} {af : Array Edge} {j : Nat} {b : Bool} {t : Nat} (hn : Nat.blt d n = true) (hj : (ops[j]?).bind (·.dst) = some t) (ht : lk l t = some undef) (h : Wk.S P ops Q n O w0 rest ((d, undef) :: l) L) : Wk.S P ops Q n O w0 (⟨some d, op, ty, ps, af, some (j, b)⟩ :: rest) l L := fun a w hF hL => by
  have h2 : Region.wanted ⟨some d, op, ty, ps, af, some (j, b)⟩ (yielded ops a.tmps) = false := by simp [Region.wanted, yu hF hj ht]
  unfold wpList
  rw [if_neg (by rw [h2]; simp)]
  exact h _ _ (hF.put hn undef) hL
attribute [local irreducible] Wk.S
end Go.Proofs.Ytnafnhpajkhgkaa
/- Ways: the side between two cells, as the program and as the reference name it. No condition. -/
namespace Go.Proofs.Ytnafnhpajkhgkaa
set_option linter.unusedVariables false
set_option linter.unusedSimpArgs false
open Go.RowKit Mem Wk
attribute [local irreducible] Calls Wk.S Wk.C Wk.E Wk.X Wk.T Wk.andV Wk.shrV Calm.wpLex
def befB (a b : Sp) : Bool := decide (a.y < b.y) || (decide (a.y = b.y) && decide (a.x < b.x))
set_option maxRecDepth 100000 in
theorem l01Before_any (a b : Sp) (w : World) :
    Calls Try.prog 74 #[.agg #[.int .i8 a.x, .int .i8 a.y], .agg #[.int .i8 b.x, .int .i8 b.y]] w fun e w' => e = .returned (.bool (befB a b)) ∧ Below w.heap.size w w' := by
  refine enter2 Try.func74 rfl rfl rfl (Own.start w) ?_
  repeat' (first
    | (refine s_g ?_; first
      | (refine s_gd rfl ?_; first | refine s_gd1 rfl rfl zTr ?_ | refine s_gd0 rfl rfl rfl zTr ?_ | refine s_gd00 rfl rfl zTr ?_ | refine s_gdu rfl rfl rfl ?_ | refine s_gp1 rfl rfl rfl (fun hc => ?_) (fun hc => ?_) | refine s_gp0 rfl rfl rfl (fun hc => ?_) (fun hc => ?_) | refine s_gnp1 rfl rfl rfl (fun hc => ?_) (fun hc => ?_) | refine s_gnp0 rfl rfl rfl (fun hc => ?_) (fun hc => ?_) | refine s_gb1 rfl rfl rfl (fun hc => ?_) (fun hc => ?_) | refine s_gb0 rfl rfl rfl (fun hc => ?_) (fun hc => ?_) | refine s_gnb1 rfl rfl rfl (fun hc => ?_) (fun hc => ?_) | refine s_gnb0 rfl rfl rfl (fun hc => ?_) (fun hc => ?_))
      | (refine s_k 0 rfl ?_; refine s_val rfl rfl rfl (r_move rfl rfl) ?_)
      | (refine s_k 23 rfl ?_; first | refine s_val rfl rfl rfl (r_field tb rfl rfl rfl) ?_ | refine s_val rfl rfl rfl (r_fieldS tb rfl rfl rfl) ?_)
      | (refine s_k 8 rfl ?_; first | (refine' s_val rfl rfl rfl (r_ldv rfl rfl ?qm ?qv) ?_; (case qm => (exact zMm)); (case qv => (exact zLe))) | (refine' s_val rfl rfl rfl (r_ldo rfl rfl ?qw (by simp) ?qv) ?_; (case qw => assumption); (case qv => (exact zLe))))
      | (refine s_k 1 rfl ?_; refine s_val rfl rfl rfl (r_assign rfl rfl) ?_)
      | (refine s_k 13 rfl ?_; first | refine s_val rfl rfl rfl (r_lss rfl rfl rfl) ?_ | refine s_val rfl rfl rfl (r_eql rfl rfl rfl) ?_)
      | (refine s_k 2 rfl ?_; first | refine s_val rfl rfl rfl (r_pick1 rfl rfl zTr rfl) ?_ | refine s_val rfl rfl rfl (r_pick0 rfl rfl zTr rfl) ?_)
      | (refine s_k 4 rfl ?_; first | refine s_boxA rfl rfl rfl rfl rfl fun blk => ?_ | refine s_box1 rfl rfl rfl rfl rfl rfl fun blk => ?_)
      | refine s_nil ?_)
    | (refine c_g ?_; first | refine c_seq ?_ | refine c_region ?_ | (refine c_gc ?_; first | refine c_cond1 rfl zTr ?_ | refine c_cond0 rfl zTr ?_ | refine z_condd1 rfl ?_ | refine z_condd0 rfl ?_ | refine z_conddn1 rfl ?_ | refine z_conddn0 rfl ?_ | refine c_condd rfl (fun hc => ?_) (fun hc => ?_) | refine c_conddn rfl (fun hc => ?_) (fun hc => ?_) | refine c_condn rfl (fun hc => ?_) (fun hc => ?_) | refine c_cond rfl (fun hc => ?_) (fun hc => ?_)) | refine c_block ?_ | refine c_skip ?_ | refine c_exit ?_ | refine c_ret ?_)
    | (refine e_g ?_; first | refine e_then ?_ | refine e_blkn ?_ | refine e_thenx ?_ | refine e_thenr ?_ | refine e_blkr ?_ | refine e_blkx ?_ | refine e_blky rfl ?_)
    | (refine e_ret1 (by simp) rfl (re_tmp rfl) fun w hL => ⟨?_, hL.toBelow⟩))
  all_goals (simp [befB, *]; done)
end Go.Proofs.Ytnafnhpajkhgkaa
