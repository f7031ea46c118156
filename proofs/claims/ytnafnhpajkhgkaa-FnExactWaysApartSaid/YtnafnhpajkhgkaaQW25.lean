import Derived.Test.YtnafnhpajkhgkaaQW24
/- The first of the shortest ways, in plain Lean. No condition. -/
namespace Go.Proofs.Ytnafnhpajkhgkaa
set_option linter.unusedVariables false
set_option linter.unusedSimpArgs false
attribute [local irreducible] stepsP bfsN bfs
/-! ## lists of cells of one length, in order -/
def leL : List Sp → List Sp → Prop
  | a :: x, b :: y => ltS a b ∨ (a = b ∧ leL x y)
  | _, _ => True
theorem leL_refl : ∀ x, leL x x
  | [] => trivial
  | a :: x => .inr ⟨rfl, leL_refl x⟩
theorem leL_anti : ∀ {x y : List Sp}, x.length = y.length → leL x y → leL y x → x = y
  | [], [], _, _, _ => rfl
  | [], b :: y, h, _, _ => by simp at h
  | a :: x, [], h, _, _ => by simp at h
  | a :: x, b :: y, h, h1, h2 => by
    unfold leL at h1 h2
    rcases h1 with h1 | ⟨e, h1⟩
    · rcases h2 with h2 | ⟨e, _⟩
      · exact absurd h2 (ltS_as _ _ h1)
      · subst e; exact absurd h1 (ltS_ir _)
    · subst e
      rcases h2 with h2 | ⟨_, h2⟩
      · exact absurd h2 (ltS_ir _)
      · rw [leL_anti (by simpa using h) h1 h2]
theorem leL_trans : ∀ {x y z : List Sp}, x.length = y.length → y.length = z.length → leL x y → leL y z → leL x z
  | [], _, _, _, _, _, _ => by unfold leL; trivial
  | a :: x, [], _, h, _, _, _ => by simp at h
  | a :: x, b :: y, [], _, h, _, _ => by simp at h
  | a :: x, b :: y, c :: z, h, h', h1, h2 => by
    unfold leL at h1 h2 ⊢
    rcases h1 with h1 | ⟨e, h1⟩
    · rcases h2 with h2 | ⟨e, _⟩
      · exact .inl (ltS_tr h1 h2)
      · subst e; exact .inl h1
    · subst e
      rcases h2 with h2 | ⟨e, h2⟩
      · exact .inl h2
      · exact .inr ⟨e, leL_trans (by simpa using h) (by simpa using h') h1 h2⟩
instance ltS_dec (a b : Sp) : Decidable (ltS a b) := by unfold ltS; infer_instance
/-- the reference's test: at the first place where they part -/
def ahB : List Sp → List Sp → Bool
  | a :: x, b :: y => if a = b then ahB x y else decide (ltS a b)
  | _, _ => false
theorem ahB_yes : ∀ {x y : List Sp}, ahB x y = true → leL x y
  | [], _, _ => by unfold leL; trivial
  | a :: x, [], _ => trivial
  | a :: x, b :: y, h => by
    unfold ahB at h
    unfold leL
    split at h
    · rename_i e; exact .inr ⟨e, ahB_yes h⟩
    · exact .inl (by simpa using h)
theorem ahB_no : ∀ {x y : List Sp}, x.length = y.length → ahB x y = false → leL y x
  | [], [], _, _ => trivial
  | [], b :: y, h, _ => by simp at h
  | a :: x, [], h, _ => by simp at h
  | a :: x, b :: y, h, h' => by
    unfold ahB at h'
    unfold leL
    split at h'
    · rename_i e; exact .inr ⟨e.symm, ahB_no (by simpa using h) h'⟩
    · rename_i e; exact .inl (ltS_ne (by simpa using h') e)

/-! ## the least of some cells -/
def minS : Sp → List Sp → Sp
  | m, [] => m
  | m, c :: l => minS (if ltS c m then c else m) l
theorem minS_mem : ∀ (l : List Sp) (m : Sp), minS m l = m ∨ minS m l ∈ l
  | [], m => .inl rfl
  | c :: l, m => by
    unfold minS
    rcases minS_mem l (if ltS c m then c else m) with h | h
    · split at h
      · rename_i hc; rw [if_pos hc]; right; rw [h]; simp
      · rename_i hc; rw [if_neg hc]; left; exact h
    · right; simp [h]
theorem minS_le : ∀ (l : List Sp) (m : Sp), (minS m l = m ∨ ltS (minS m l) m) ∧ ∀ c ∈ l, minS m l = c ∨ ltS (minS m l) c
  | [], m => ⟨.inl rfl, fun c hc => by cases hc⟩
  | c :: l, m => by
    unfold minS
    have ih := minS_le l (if ltS c m then c else m)
    generalize minS (if ltS c m then c else m) l = r at *
    by_cases h : ltS c m
    · rw [if_pos h] at ih
      refine ⟨.inr (ih.1.elim (fun e => e ▸ h) fun h' => ltS_tr h' h), fun d hd => ?_⟩
      rcases List.mem_cons.1 hd with e | e
      · subst e; exact ih.1
      · exact ih.2 d e
    · rw [if_neg h] at ih
      refine ⟨ih.1, fun d hd => ?_⟩
      rcases List.mem_cons.1 hd with e | e
      · subst e
        by_cases e2 : d = m
        · subst e2; exact ih.1
        · have h2 := ltS_ne h e2
          exact .inr (ih.1.elim (fun e => e ▸ h2) fun h' => ltS_tr h' h2)
      · exact ih.2 d e

/-! ## ways -/
def isW (p : Nat → Int) : List Sp → Prop
  | [] => False
  | [_] => True
  | a :: b :: l => b ∈ nbP p a ∧ isW p (b :: l)
/-- who comes next: of those that are a step nearer, the first -/
def nearL (p : Nat → Int) (D : Nat → Int) (s : Sp) : List Sp := (nbP p s).filter fun c => decide (D (ci c) = D (ci s) - 1)
def pickW (p : Nat → Int) (D : Nat → Int) (s : Sp) : Sp := match nearL p D s with
  | [] => s
  | c :: l => minS c l
def gw (p : Nat → Int) (D : Nat → Int) : Nat → Sp → List Sp
  | 0, s => [s]
  | k + 1, s => s :: gw p D k (pickW p D s)
theorem gw_len (p : Nat → Int) (D : Nat → Int) : ∀ (k : Nat) (s : Sp), (gw p D k s).length = k + 1
  | 0, s => rfl
  | k + 1, s => by rw [gw, List.length_cons, gw_len]
theorem gw_head (p : Nat → Int) (D : Nat → Int) : ∀ (k : Nat) (s : Sp), ∃ t, gw p D k s = s :: t
  | 0, s => ⟨[], rfl⟩
  | k + 1, s => ⟨_, rfl⟩
theorem pickW_of {p : Nat → Int} {D : Nat → Int} {s c : Sp} (h : c ∈ nearL p D s) : pickW p D s ∈ nearL p D s ∧ (pickW p D s = c ∨ ltS (pickW p D s) c) := by
  unfold pickW
  cases hl : nearL p D s with
  | nil => rw [hl] at h; cases h
  | cons d l =>
    rw [hl] at h
    simp only
    refine ⟨?_, ?_⟩
    · rcases minS_mem l d with e | e
      · rw [e]; simp
      · simp [e]
    · rcases List.mem_cons.1 h with e | e
      · subst e; exact (minS_le l c).1
      · exact (minS_le l d).2 c e
theorem mem_near {p : Nat → Int} {D : Nat → Int} {s c : Sp} : c ∈ nearL p D s ↔ c ∈ nbP p s ∧ D (ci c) = D (ci s) - 1 := by unfold nearL; rw [List.mem_filter, decide_eq_true_iff]
section
variable {p : Nat → Int} {B : List Sp}
theorem celR (hB : ∀ c ∈ B, cel p c) : ∀ c ∈ B, inR c := fun c hc => isC_range (hB c hc)
/-- A way to the cells of B is as long as the table says, or longer. -/
theorem isW_far (hB : ∀ c ∈ B, cel p c) : ∀ {l : List Sp} {s : Sp} {t : List Sp}, l = s :: t → isW p l → cel p s → (∀ b, l.getLast? = some b → b ∈ B) → (stepsP p B).1 (ci s) ≠ 0 ∧ (stepsP p B).1 (ci s) ≤ l.length
  | [], s, t, e, _, _, _ => by cases e
  | [a], s, t, e, _, hs, hl => by
    injection e with e1 e2; subst e1
    have h := hl a rfl
    have h1 := (steps_one (p := p) (celR hB) (celR hB a h)).2 h
    rw [h1]; simp
  | a :: b :: l, s, t, e, h, hs, hl => by
    injection e with e1 e2; subst e1
    unfold isW at h
    have hbc := nbP_cel h.1
    have ih := isW_far hB (l := b :: l) rfl h.2 hbc fun c hc => hl c (by simpa using hc)
    have hbm := (steps_mem (p := p) (celR hB) (isC_range hbc)).2 ih.1
    have hn := nbP_symm hs h.1
    have h1 := (steps_bm (p := p) (celR hB)).2 b a hbm hn
    have h2 : a ∈ (stepsP p B).2 := steps_closed (celR hB) hbm hn
    refine ⟨(steps_mem (celR hB) (isC_range hs)).1 h2, ?_⟩
    simp only [List.length_cons] at ih ⊢
    omega
theorem near_ex (hB : ∀ c ∈ B, cel p c) {s : Sp} (hs : cel p s) (h : 1 < (stepsP p B).1 (ci s)) : pickW p (stepsP p B).1 s ∈ nbP p s ∧ (stepsP p B).1 (ci (pickW p (stepsP p B).1 s)) = (stepsP p B).1 (ci s) - 1 := by
  obtain ⟨c, hc, hn, hD⟩ := steps_pre (p := p) (celR hB) (isC_range hs) h
  have hcc : cel p c := by
    obtain ⟨m, hM⟩ := (steps_bm (p := p) (celR hB)).1
    rcases hM.pre c hc with h1 | ⟨t, _, h1, _⟩
    · exact hB c h1.1
    · exact nbP_cel h1
  have hnear : c ∈ nearL p (stepsP p B).1 s := mem_near.2 ⟨nbP_symm hcc hn, by omega⟩
  exact mem_near.1 (pickW_of hnear).1
/-- The way that goes nearer by the first cell: it is a way, as short as the table says. -/
theorem gw_way (hB : ∀ c ∈ B, cel p c) : ∀ (k : Nat) (s : Sp), cel p s → (stepsP p B).1 (ci s) = (k : Int) + 1 → isW p (gw p (stepsP p B).1 k s) ∧ ∀ b, (gw p (stepsP p B).1 k s).getLast? = some b → b ∈ B
  | 0, s, hs, h => ⟨trivial, fun b hb => by
    have e : s = b := by simpa [gw] using hb
    subst e
    exact (steps_one (p := p) (celR hB) (isC_range hs)).1 (by rw [h]; rfl)⟩
  | k + 1, s, hs, h => by
    have hp := near_ex hB hs (by rw [h]; omega)
    have ih := gw_way hB k (pickW p (stepsP p B).1 s) (nbP_cel hp.1) (by rw [hp.2, h]; omega)
    rw [gw]
    obtain ⟨t, ht⟩ := gw_head p (stepsP p B).1 k (pickW p (stepsP p B).1 s)
    rw [ht] at ih ⊢
    exact ⟨⟨hp.1, ih.1⟩, fun b hb => ih.2 b (by simpa using hb)⟩
/-- .. and of those it is the first. -/
theorem gw_le (hB : ∀ c ∈ B, cel p c) : ∀ (k : Nat) (s : Sp), cel p s → (stepsP p B).1 (ci s) = (k : Int) + 1 → ∀ t, isW p (s :: t) → (∀ b, (s :: t).getLast? = some b → b ∈ B) → (s :: t).length = k + 1 → leL (gw p (stepsP p B).1 k s) (s :: t)
  | 0, s, hs, h, t, hW, hl, hn => by
    have : t = [] := by simpa using hn
    subst this; exact leL_refl _
  | k + 1, s, hs, h, [], hW, hl, hn => by simp at hn
  | k + 1, s, hs, h, v :: r, hW, hl, hn => by
    unfold isW at hW
    have hvc := nbP_cel hW.1
    have hlv : ∀ b, (v :: r).getLast? = some b → b ∈ B := fun b hb => hl b (by simpa using hb)
    have hf := isW_far hB (l := v :: r) rfl hW.2 hvc hlv
    have hvm := (steps_mem (p := p) (celR hB) (isC_range hvc)).2 hf.1
    have he := (steps_bm (p := p) (celR hB)).2 v s hvm (nbP_symm hs hW.1)
    have hn' : (v :: r).length = k + 1 := by simpa using hn
    rw [hn'] at hf
    have hv : v ∈ nearL p (stepsP p B).1 s := mem_near.2 ⟨hW.1, by omega⟩
    have hp := pickW_of hv
    rw [gw]
    refine .inr ⟨rfl, ?_⟩
    rcases hp.2 with e | e
    · rw [e]
      exact gw_le hB k v hvc (by have := (mem_near.1 hv).2; omega) r hW.2 hlv hn'
    · obtain ⟨t, ht⟩ := gw_head p (stepsP p B).1 k (pickW p (stepsP p B).1 s)
      rw [ht]; exact .inl e
end

/-! ## the program's choice -/
/-- the nearest one of some cells, the first of these; -1 where there is none -/
def bestStep (D : Nat → Int) (q : Sp × Int) (s : Sp) : Sp × Int := if 0 ≤ D (ci s) - 1 ∧ (q.2 < 0 ∨ D (ci s) - 1 < q.2) then (s, D (ci s) - 1) else q
def bestL (D : Nat → Int) (l : List Sp) : Sp × Int := l.foldl (bestStep D) (⟨0, 0⟩, -1)
theorem bestL_snoc (D : Nat → Int) (l : List Sp) (s : Sp) : bestL D (l ++ [s]) = bestStep D (bestL D l) s := by unfold bestL; rw [List.foldl_append]; rfl
theorem bestL_prop {D : Nat → Int} (hD : ∀ j, 0 ≤ D j) : ∀ (n : Nat) (l : List Sp), l.length = n → l.Pairwise ltS → ((bestL D l).2 = -1 ∧ ∀ s ∈ l, D (ci s) = 0) ∨ (0 ≤ (bestL D l).2 ∧ (bestL D l).2 = D (ci (bestL D l).1) - 1 ∧ (bestL D l).1 ∈ l ∧ ∀ s ∈ l, D (ci s) ≠ 0 → D (ci (bestL D l).1) < D (ci s) ∨ (D (ci (bestL D l).1) = D (ci s) ∧ ((bestL D l).1 = s ∨ ltS (bestL D l).1 s)))
  | 0, l, h, _ => by rw [List.length_eq_zero_iff.1 h]; exact .inl ⟨rfl, fun s hs => by cases hs⟩
  | n + 1, l, h, hp => by
    rcases List.eq_nil_or_concat l with rfl | ⟨k, a, rfl⟩
    · exact .inl ⟨rfl, fun s hs => by cases hs⟩
    · rw [List.concat_eq_append] at h hp ⊢
      have hpp := List.pairwise_append.1 hp
      have ih := bestL_prop hD n k (by simpa using h) hpp.1
      have hlt : ∀ s ∈ k, ltS s a := fun s hs => hpp.2.2 s hs a (by simp)
      rw [bestL_snoc]
      have h0 := hD (ci a)
      generalize bestL D k = q at *
      obtain ⟨b, m⟩ := q
      unfold bestStep
      simp only at *
      rcases ih with ⟨hm, hz⟩ | ⟨hm, hmD, hbk, hall⟩
      · by_cases ha : D (ci a) = 0
        · rw [if_neg (by omega)]
          refine .inl ⟨hm, fun s hs => ?_⟩
          rcases List.mem_append.1 hs with h1 | h1
          · exact hz s h1
          · rw [List.mem_singleton] at h1; subst h1; exact ha
        · rw [if_pos (by omega)]
          refine .inr ⟨by simp only; omega, rfl, by simp, fun s hs hne => ?_⟩
          rcases List.mem_append.1 hs with h1 | h1
          · exact absurd (hz s h1) hne
          · rw [List.mem_singleton] at h1; subst h1; exact .inr ⟨rfl, .inl rfl⟩
      · by_cases ha : 0 ≤ D (ci a) - 1 ∧ (m < 0 ∨ D (ci a) - 1 < m)
        · rw [if_pos ha]
          refine .inr ⟨ha.1, rfl, by simp, fun s hs hne => ?_⟩
          simp only
          rcases List.mem_append.1 hs with h1 | h1
          · rcases hall s h1 hne with h2 | ⟨h2, _⟩
            · left; omega
            · left; omega
          · rw [List.mem_singleton] at h1; subst h1; exact .inr ⟨rfl, .inl rfl⟩
        · rw [if_neg ha]
          refine .inr ⟨hm, hmD, by simp [hbk], fun s hs hne => ?_⟩
          simp only
          rcases List.mem_append.1 hs with h1 | h1
          · exact hall s h1 hne
          · rw [List.mem_singleton] at h1; subst h1
            have h3 := hlt b hbk
            by_cases e : D (ci b) = D (ci s)
            · exact .inr ⟨e, .inr h3⟩
            · left; omega
def implW (p : Nat → Int) (A B : List Sp) : List Sp := if (bestL (stepsP p B).1 (ordL A)).2 < 0 then [] else gw p (stepsP p B).1 (bestL (stepsP p B).1 (ordL A)).2.toNat (bestL (stepsP p B).1 (ordL A)).1

/-! ## the reference's choice -/
def wayV (p : Nat → Int) (a b : Sp) : List Sp := if (stepsP p [b]).1 (ci a) = 0 then [] else gw p (stepsP p [b]).1 ((stepsP p [b]).1 (ci a) - 1).toNat a
def betS (R V : List Sp) : List Sp := if V = [] then R else if R ≠ [] ∧ R.length < V.length then R else if R = [] ∨ V.length < R.length ∨ ahB V R = true then V else R
def allV (p : Nat → Int) (A B : List Sp) : List (List Sp) := A.flatMap fun a => B.map (wayV p a)
def specW (p : Nat → Int) (A B : List Sp) : List Sp := (allV p A B).foldl betS []
theorem betS_prop : ∀ (n : Nat) (l : List (List Sp)), l.length = n → (l.foldl betS [] = [] ∧ ∀ V ∈ l, V = []) ∨ (l.foldl betS [] ≠ [] ∧ l.foldl betS [] ∈ l ∧ ∀ V ∈ l, V ≠ [] → (l.foldl betS []).length < V.length ∨ ((l.foldl betS []).length = V.length ∧ leL (l.foldl betS []) V))
  | 0, l, h => by rw [List.length_eq_zero_iff.1 h]; exact .inl ⟨rfl, fun s hs => by cases hs⟩
  | n + 1, l, h => by
    rcases List.eq_nil_or_concat l with rfl | ⟨k, U, rfl⟩
    · exact .inl ⟨rfl, fun s hs => by cases hs⟩
    · rw [List.concat_eq_append] at h ⊢
      have ih := betS_prop n k (by simpa using h)
      rw [List.foldl_append]
      show (betS (k.foldl betS []) U = [] ∧ _) ∨ (betS (k.foldl betS []) U ≠ [] ∧ betS (k.foldl betS []) U ∈ k ++ [U] ∧ ∀ V ∈ k ++ [U], V ≠ [] → (betS (k.foldl betS []) U).length < V.length ∨ ((betS (k.foldl betS []) U).length = V.length ∧ leL (betS (k.foldl betS []) U) V))
      generalize k.foldl betS [] = R at *
      by_cases hU : U = []
      · have e : betS R U = R := by unfold betS; rw [if_pos hU]
        rw [e]
        rcases ih with ⟨hR, hz⟩ | ⟨hR, hm, hall⟩
        · refine .inl ⟨hR, fun V hV => ?_⟩
          rcases List.mem_append.1 hV with h1 | h1
          · exact hz V h1
          · rw [List.mem_singleton] at h1; subst h1; exact hU
        · refine .inr ⟨hR, by simp [hm], fun V hV hne => ?_⟩
          rcases List.mem_append.1 hV with h1 | h1
          · exact hall V h1 hne
          · rw [List.mem_singleton] at h1; subst h1; exact absurd hU hne
      · rcases ih with ⟨hR, hz⟩ | ⟨hR, hm, hall⟩
        · have e : betS R U = U := by unfold betS; rw [if_neg hU, if_neg (fun h => h.1 hR), if_pos (.inl hR)]
          rw [e]
          refine .inr ⟨hU, by simp, fun V hV hne => ?_⟩
          rcases List.mem_append.1 hV with h1 | h1
          · exact absurd (hz V h1) hne
          · rw [List.mem_singleton] at h1; subst h1; exact .inr ⟨rfl, leL_refl _⟩
        · by_cases hl : R.length < U.length
          · have e : betS R U = R := by unfold betS; rw [if_neg hU, if_pos ⟨hR, hl⟩]
            rw [e]
            refine .inr ⟨hR, by simp [hm], fun V hV hne => ?_⟩
            rcases List.mem_append.1 hV with h1 | h1
            · exact hall V h1 hne
            · rw [List.mem_singleton] at h1; subst h1; exact .inl hl
          · by_cases hb : U.length < R.length ∨ ahB U R = true
            · have e : betS R U = U := by unfold betS; rw [if_neg hU, if_neg (fun h => hl h.2), if_pos (.inr hb)]
              rw [e]
              refine .inr ⟨hU, by simp, fun V hV hne => ?_⟩
              rcases List.mem_append.1 hV with h1 | h1
              · rcases hall V h1 hne with h2 | ⟨h2, h3⟩
                · left; omega
                · rcases hb with hb | hb
                  · left; omega
                  · by_cases e2 : U.length = R.length
                    · exact .inr ⟨by omega, leL_trans e2 h2 (ahB_yes hb) h3⟩
                    · left; omega
              · rw [List.mem_singleton] at h1; subst h1; exact .inr ⟨rfl, leL_refl _⟩
            · have e : betS R U = R := by unfold betS; rw [if_neg hU, if_neg (fun h => hl h.2), if_neg (fun h => h.elim hR hb)]
              rw [e]
              have e2 : U.length = R.length := by
                have : ¬ U.length < R.length := fun h => hb (.inl h)
                omega
              have e3 : leL R U := ahB_no e2 (by cases h : ahB U R <;> simp_all)
              refine .inr ⟨hR, by simp [hm], fun V hV hne => ?_⟩
              rcases List.mem_append.1 hV with h1 | h1
              · exact hall V h1 hne
              · rw [List.mem_singleton] at h1; subst h1; exact .inr ⟨e2.symm, e3⟩

/-! ## they choose the same way -/
section
variable {p : Nat → Int} {A B : List Sp}
def abW (p : Nat → Int) (A B V : List Sp) : Prop := ∃ a t, V = a :: t ∧ a ∈ A ∧ isW p V ∧ ∀ b, V.getLast? = some b → b ∈ B
theorem stp_nn (hB : ∀ c ∈ B, inR c) (j : Nat) : 0 ≤ (stepsP p B).1 j := (stepsP_val p hB j).1
theorem wayV_prop (hA : ∀ c ∈ A, cel p c) (hB : ∀ c ∈ B, cel p c) {a b : Sp} (ha : a ∈ A) (hb : b ∈ B) (hne : wayV p a b ≠ []) : abW p A B (wayV p a b) ∧ ((wayV p a b).length : Int) = (stepsP p [b]).1 (ci a) := by
  have hb1 : ∀ c ∈ [b], cel p c := fun c hc => by rw [List.mem_singleton] at hc; subst hc; exact hB c hb
  have h0 := stp_nn (p := p) (celR hb1) (ci a)
  unfold wayV at hne ⊢
  split at hne
  · exact absurd rfl hne
  · rename_i hz
    rw [if_neg hz]
    have hk : (stepsP p [b]).1 (ci a) = ((((stepsP p [b]).1 (ci a) - 1).toNat : Nat) : Int) + 1 := by omega
    have hw := gw_way hb1 _ a (hA a ha) hk
    obtain ⟨t, ht⟩ := gw_head p (stepsP p [b]).1 ((stepsP p [b]).1 (ci a) - 1).toNat a
    refine ⟨⟨a, t, ht, ha, hw.1, fun c hc => ?_⟩, by rw [gw_len]; omega⟩
    have := hw.2 c hc
    rw [List.mem_singleton] at this; subst this; exact hb
/-- Each way from A to B: the reference's way between its ends is as short, and no later. -/
theorem wayV_le (hA : ∀ c ∈ A, cel p c) (hB : ∀ c ∈ B, cel p c) {V : List Sp} (hV : abW p A B V) : ∃ a b, a ∈ A ∧ b ∈ B ∧ wayV p a b ≠ [] ∧ (wayV p a b).length ≤ V.length ∧ ((wayV p a b).length = V.length → leL (wayV p a b) V) := by
  obtain ⟨a, t, rfl, ha, hW, hl⟩ := hV
  obtain ⟨b, hb⟩ : ∃ b, (a :: t).getLast? = some b := ⟨_, List.getLast?_eq_some_getLast (by simp)⟩
  have hbB := hl b hb
  have hb1 : ∀ c ∈ [b], cel p c := fun c hc => by rw [List.mem_singleton] at hc; subst hc; exact hB c hbB
  have hl1 : ∀ c, (a :: t).getLast? = some c → c ∈ [b] := fun c hc => by rw [hb] at hc; injection hc with hc; simp [hc]
  have hf := isW_far hb1 (l := a :: t) rfl hW (hA a ha) hl1
  have h0 := stp_nn (p := p) (celR hb1) (ci a)
  have hk : (stepsP p [b]).1 (ci a) = ((((stepsP p [b]).1 (ci a) - 1).toNat : Nat) : Int) + 1 := by omega
  have e : wayV p a b = gw p (stepsP p [b]).1 ((stepsP p [b]).1 (ci a) - 1).toNat a := by unfold wayV; rw [if_neg hf.1]
  refine ⟨a, b, ha, hbB, ?_, ?_, ?_⟩
  · rw [e]; intro h; have := congrArg List.length h; rw [gw_len] at this; simp at this
  · rw [e, gw_len]; omega
  · intro hlen
    rw [e] at hlen ⊢
    rw [gw_len] at hlen
    exact gw_le hb1 _ a (hA a ha) hk t hW hl1 hlen.symm
/-- The program's way. -/
theorem implW_prop (hA : ∀ c ∈ A, cel p c) (hB : ∀ c ∈ B, cel p c) : (implW p A B = [] ∧ ∀ a ∈ A, (stepsP p B).1 (ci a) = 0) ∨ (abW p A B (implW p A B) ∧ ∀ V, abW p A B V → (implW p A B).length ≤ V.length ∧ ((implW p A B).length = V.length → leL (implW p A B) V)) := by
  have hin : ∀ s ∈ A, inR s := celR hA
  have h := bestL_prop (D := (stepsP p B).1) (stp_nn (celR hB)) _ (ordL A) rfl (ordL_lt A)
  unfold implW
  generalize bestL (stepsP p B).1 (ordL A) = q at *
  obtain ⟨s, m⟩ := q
  simp only at *
  rcases h with ⟨hm, hz⟩ | ⟨hm, hmD, hs, hall⟩
  · rw [if_pos (by omega)]
    exact .inl ⟨rfl, fun a ha => hz a ((ordL_mem hin a).2 ha)⟩
  · rw [if_neg (by omega)]
    have hsA := (ordL_mem hin s).1 hs
    have hk : (stepsP p B).1 (ci s) = ((m.toNat : Nat) : Int) + 1 := by omega
    have hw := gw_way hB _ s (hA s hsA) hk
    obtain ⟨t, ht⟩ := gw_head p (stepsP p B).1 m.toNat s
    refine .inr ⟨⟨s, t, ht, hsA, hw.1, hw.2⟩, fun V hV => ?_⟩
    obtain ⟨a, r, rfl, ha, hW, hl⟩ := hV
    have hf := isW_far hB (l := a :: r) rfl hW (hA a ha) hl
    rw [gw_len]
    rcases hall a ((ordL_mem hin a).2 ha) hf.1 with h1 | ⟨h1, h2⟩
    · exact ⟨by omega, fun e => by omega⟩
    · refine ⟨by omega, fun e => ?_⟩
      rcases h2 with e2 | e2
      · subst e2; exact gw_le hB _ s (hA s hsA) hk r hW hl e.symm
      · rw [ht]; exact .inl e2
theorem first_eq (hA : ∀ c ∈ A, cel p c) (hB : ∀ c ∈ B, cel p c) : implW p A B = specW p A B := by
  have hmem : ∀ V, V ∈ allV p A B ↔ ∃ a ∈ A, ∃ b ∈ B, wayV p a b = V := fun V => by unfold allV; simp
  have hS := betS_prop _ (allV p A B) rfl
  change (specW p A B = [] ∧ _) ∨ (specW p A B ≠ [] ∧ specW p A B ∈ _ ∧ ∀ V ∈ allV p A B, V ≠ [] → (specW p A B).length < V.length ∨ ((specW p A B).length = V.length ∧ leL (specW p A B) V)) at hS
  generalize specW p A B = R at *
  rcases implW_prop (p := p) hA hB with ⟨he, hz⟩ | ⟨hw, hall⟩
  · rw [he]
    rcases hS with ⟨hR, _⟩ | ⟨hR, hm, _⟩
    · exact hR.symm
    · obtain ⟨a, ha, b, hb, e⟩ := (hmem R).1 hm
      subst e
      obtain ⟨⟨a', t, e, ha', hW, hl⟩, _⟩ := wayV_prop hA hB ha hb hR
      exact absurd (hz a' ha') (isW_far hB e hW (hA a' ha') hl).1
  · obtain ⟨a, b, ha, hb, hne, hlen, hle⟩ := wayV_le hA hB hw
    rcases hS with ⟨hR, hz⟩ | ⟨hR, hm, hbest⟩
    · exact absurd (hz _ ((hmem _).2 ⟨a, ha, b, hb, rfl⟩)) hne
    · obtain ⟨a', ha', b', hb', e⟩ := (hmem R).1 hm
      have hRw : abW p A B R := by subst e; exact (wayV_prop hA hB ha' hb' hR).1
      have h1 := hall R hRw
      have h2 := hbest _ ((hmem _).2 ⟨a, ha, b, hb, rfl⟩) hne
      have e1 : (implW p A B).length = R.length := by omega
      have e2 : R.length = (wayV p a b).length := by omega
      have h3 : leL R (wayV p a b) := by rcases h2 with h | h; · omega
                                         · exact h.2
      exact leL_anti e1 (h1.2 e1) (leL_trans e2 (by omega) h3 (hle (by omega)))
end
end Go.Proofs.Ytnafnhpajkhgkaa
