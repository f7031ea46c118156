import Derived.Test.YtnfdefeafhepkaaQG24
/- Yards: that one cell can be reached from another is an equivalence; numbers of yards. Plain, no condition. -/
namespace Go.Proofs.Ytnfdefeafhepkaa
set_option linter.unusedVariables false
set_option linter.unusedSimpArgs false
open Go.RowKit Mem Wk
attribute [local irreducible] bfsN bfs
/-- b can be reached from a -/
def conn (p : Nat → Int) (a b : Sp) : Prop := Way (nbP p) (· = a) b
def cel (p : Nat → Int) (c : Sp) : Prop := isC (p 0) (p 1) c.x c.y = true
theorem conn_refl (p : Nat → Int) (a : Sp) : conn p a a := Way.start rfl
theorem conn_trans {p : Nat → Int} {a b c : Sp} (h1 : conn p a b) (h2 : conn p b c) : conn p a c := by
  induction h2 with
  | start h => rw [h]; exact h1
  | step _ h ih => exact Way.step ih h
theorem nbP_cel {p : Nat → Int} {a b : Sp} (h : b ∈ nbP p a) : cel p b := besL_inR h
theorem besL_ex {p : Nat → Int} {x y : Int} {c : Sp} : ∀ {k : Nat}, c ∈ besL p x y k ↔ ∃ s : Nat, s < k ∧ canB p x y (s : Int) = true ∧ c = ⟨nextX x (s : Int), nextY y (s : Int)⟩
  | k => by
    unfold besL
    rw [List.mem_map]
    constructor
    · rintro ⟨s, hs, rfl⟩
      obtain ⟨h1, h2⟩ := List.mem_filter.1 hs
      exact ⟨s, List.mem_range.1 h1, h2, rfl⟩
    · rintro ⟨s, h1, h2, rfl⟩
      exact ⟨s, List.mem_filter.2 ⟨List.mem_range.2 h1, h2⟩, rfl⟩
theorem nbP_symm {p : Nat → Int} {a b : Sp} (ha : cel p a) (h : b ∈ nbP p a) : a ∈ nbP p b := by
  obtain ⟨s, hs, hc, rfl⟩ := besL_ex.1 h
  unfold canB at hc
  rw [Bool.and_eq_true] at hc
  obtain ⟨h1, h2⟩ := hc
  unfold cel at ha
  refine besL_ex.2 ?_
  have h4 : s = 0 ∨ s = 1 ∨ s = 2 ∨ s = 3 := by omega
  obtain ⟨x, y⟩ := a
  simp only at ha h1 h2 ⊢
  rcases h4 with rfl | rfl | rfl | rfl
  · refine ⟨2, by omega, ?_, ?_⟩
    · unfold canB
      simp [nextX, nextY, hdX, hdY, hdS] at h1 h2 ⊢
      exact ⟨ha, h2⟩
    · simp [nextX, nextY]
  · refine ⟨3, by omega, ?_, ?_⟩
    · unfold canB
      simp [nextX, nextY, hdX, hdY, hdS] at h1 h2 ⊢
      exact ⟨ha, h2⟩
    · simp [nextX, nextY]
  · refine ⟨0, by omega, ?_, ?_⟩
    · unfold canB
      simp [nextX, nextY, hdX, hdY, hdS] at h1 h2 ⊢
      exact ⟨ha, h2⟩
    · simp [nextX, nextY]
  · refine ⟨1, by omega, ?_, ?_⟩
    · unfold canB
      simp [nextX, nextY, hdX, hdY, hdS] at h1 h2 ⊢
      exact ⟨ha, h2⟩
    · simp [nextX, nextY]
theorem conn_cel {p : Nat → Int} {a b : Sp} (ha : cel p a) (h : conn p a b) : cel p b := by
  cases h with
  | start h => rw [h]; exact ha
  | step _ h => exact nbP_cel h
theorem conn_symm {p : Nat → Int} {a b : Sp} (ha : cel p a) (h : conn p a b) : conn p b a := by
  induction h with
  | start h => rw [h]; exact conn_refl p a
  | @step c d h1 h2 ih => exact conn_trans (Way.step (Way.start rfl) (nbP_symm (conn_cel ha h1) h2)) ih
theorem way_ex {p : Nat → Int} {l : List Sp} {c : Sp} : Way (nbP p) (· ∈ l) c ↔ ∃ a ∈ l, conn p a c := by
  constructor
  · intro h
    induction h with
    | start h => exact ⟨_, h, conn_refl p _⟩
    | step _ h ih => obtain ⟨a, h1, h2⟩ := ih; exact ⟨a, h1, Way.step h2 h⟩
  · rintro ⟨a, h1, h2⟩
    induction h2 with
    | start h => rw [h]; exact Way.start h1
    | step _ h ih => exact Way.step ih h
theorem steps_ex {p : Nat → Int} {l : List Sp} (hl : ∀ c ∈ l, inR c) {c : Sp} (hc : inR c) : (stepsP p l).1 (ci c) ≠ 0 ↔ ∃ a ∈ l, conn p a c := by
  rw [← way_ex]
  unfold stepsP
  exact bfs_ne (bi0 hl) (nbP_ok p) hc
theorem str_conn {p : Nat → Int} {a c : Sp} (ha : inR a) (hc : inR c) : 0 < strD p a (ci c) ↔ conn p a c := by
  have h := steps_ex (p := p) (l := [a]) (fun c h => by rw [List.mem_singleton] at h; subst h; exact ha) hc
  have hv := strD_val p ha (ci c)
  unfold strD at hv ⊢
  generalize (stepsP p [a]).1 (ci c) = n at *
  constructor
  · intro h0
    obtain ⟨b, hb, hcn⟩ := h.1 (by omega)
    rw [List.mem_singleton] at hb; subst hb; exact hcn
  · intro hcn
    have := h.2 ⟨a, List.mem_singleton.2 rfl, hcn⟩
    omega
/-- numbers: what cells of a list are given -/
def setL (D : Nat → Int) (v : Int) (l : List Sp) : Nat → Int := l.foldl (fun D c => upd D (ci c) v) D
theorem setL_snoc (D : Nat → Int) (v : Int) {l : List Sp} {k : Nat} {c : Sp} (h : l[k]? = some c) : setL D v (l.take (k + 1)) = upd (setL D v (l.take k)) (ci c) v := by
  unfold setL; rw [List.take_add_one, h, List.foldl_append]; rfl
theorem setL_at (v : Int) (j : Nat) : ∀ (l : List Sp) (D : Nat → Int), setL D v l j = if j ∈ l.map ci then v else D j
  | [], D => by simp [setL]
  | c :: l, D => by
    have ih := setL_at v j l (upd D (ci c) v)
    unfold setL at ih ⊢
    rw [List.foldl_cons, ih, List.map_cons]
    by_cases h1 : j ∈ l.map ci
    · rw [if_pos h1, if_pos (List.mem_cons_of_mem _ h1)]
    · rw [if_neg h1]
      by_cases h2 : j = ci c
      · subst h2; rw [upd_at, if_pos List.mem_cons_self]
      · rw [upd_ne _ _ h2, if_neg (by rw [List.mem_cons]; exact fun h => h.elim h2 h1)]
/-- the table and the count after m cells -/
def numS (p : Nat → Int) (W : Nat) : Nat → (Nat → Int) × Nat
  | 0 => (fun _ => 0, 0)
  | m + 1 => if 0 < (numS p W m).1 (ci (cellN W m)) then numS p W m else (setL (numS p W m).1 ((numS p W m).2 + 1 : Nat) (yardL p (cellN W m)), (numS p W m).2 + 1)
theorem numS_yes {p : Nat → Int} {W m : Nat} (h : 0 < (numS p W m).1 (ci (cellN W m))) : numS p W (m + 1) = numS p W m := by rw [numS, if_pos h]
theorem numS_no {p : Nat → Int} {W m : Nat} (h : ¬ 0 < (numS p W m).1 (ci (cellN W m))) : numS p W (m + 1) = (setL (numS p W m).1 ((numS p W m).2 + 1 : Nat) (yardL p (cellN W m)), (numS p W m).2 + 1) := by rw [numS, if_neg h]
theorem yard_mem {p : Nat → Int} {a c : Sp} (ha10 : p 0 ≤ 10) (hb10 : p 1 ≤ 10) (ha : cel p a) : c ∈ yardL p a ↔ cel p c ∧ conn p a c := by
  have hra : inR a := isC_range ha
  obtain ⟨hW, hH, _, _⟩ := dims ha10 hb10 ha
  constructor
  · intro h
    have h1 := pasL_isC ha10 hb10 h
    refine ⟨h1.1, (str_conn hra (isC_range h1.1)).1 ?_⟩
    have := h1.2
    unfold yardF at this
    simp at this
    omega
  · rintro ⟨h1, h2⟩
    have hrc : inR c := isC_range h1
    have h3 := (str_conn (p := p) hra hrc).2 h2
    unfold cel isC inB at h1
    simp at h1
    unfold yardL pasL
    refine cellL_in ?_ (by omega) (by omega)
    unfold yardF
    simp
    omega
structure NumI (p : Nat → Int) (W : Nat) (m : Nat) (D : Nat → Int) (n : Nat) : Prop where
  seen : ∀ c, cel p c → (0 < D (ci c) ↔ ∃ k, k < m ∧ conn p (cellN W k) c)
  same : ∀ c d, cel p c → cel p d → 0 < D (ci c) → 0 < D (ci d) → (D (ci c) = D (ci d) ↔ conn p c d)
  rng : ∀ j, 0 ≤ D j ∧ D j ≤ n
theorem numS_inv {p : Nat → Int} (ha : p 0 ≤ 10) (hb : p 1 ≤ 10) {W : Nat} : ∀ m, (∀ k, k < m → cel p (cellN W k)) → NumI p W m (numS p W m).1 (numS p W m).2
  | 0, _ => ⟨fun c hc => by simp [numS], fun c d hc hd h => by simp [numS] at h, fun j => by simp [numS]⟩
  | m + 1, hm => by
    have ih := numS_inv ha hb m fun k hk => hm k (by omega)
    have hs := hm m (by omega)
    by_cases h : 0 < (numS p W m).1 (ci (cellN W m))
    · rw [numS_yes h]
      refine ⟨fun c hc => ?_, ih.same, ih.rng⟩
      rw [ih.seen c hc]
      constructor
      · rintro ⟨k, hk, hw⟩; exact ⟨k, by omega, hw⟩
      · rintro ⟨k, hk, hw⟩
        by_cases e : k = m
        · subst e
          obtain ⟨j, hj, hw2⟩ := (ih.seen _ hs).1 h
          exact ⟨j, hj, conn_trans hw2 hw⟩
        · exact ⟨k, by omega, hw⟩
    · rw [numS_no h]
      have ih1 := ih.seen
      have ih2 := ih.same
      have ih3 := ih.rng
      generalize numS p W m = q at *
      obtain ⟨D, n⟩ := q
      simp only at h ih1 ih2 ih3 ⊢
      have hin : ∀ c, cel p c → (ci c ∈ (yardL p (cellN W m)).map ci ↔ conn p (cellN W m) c) := fun c hc => by
        rw [List.mem_map]
        constructor
        · rintro ⟨d, hd, e⟩
          have h1 := (yard_mem ha hb hs).1 hd
          have := ci_inj (isC_range h1.1) (isC_range hc) e
          subst this; exact h1.2
        · intro hw; exact ⟨c, (yard_mem ha hb hs).2 ⟨hc, hw⟩, rfl⟩
      have hcase : ∀ c, cel p c → (conn p (cellN W m) c ∧ setL D ((n + 1 : Nat) : Int) (yardL p (cellN W m)) (ci c) = ((n + 1 : Nat) : Int)) ∨ (¬ conn p (cellN W m) c ∧ setL D ((n + 1 : Nat) : Int) (yardL p (cellN W m)) (ci c) = D (ci c)) := fun c hc => by
        rw [setL_at]
        by_cases hw : conn p (cellN W m) c
        · left; exact ⟨hw, by rw [if_pos ((hin c hc).2 hw)]⟩
        · right; exact ⟨hw, by rw [if_neg (fun h => hw ((hin c hc).1 h))]⟩
      refine ⟨fun c hc => ?_, fun c d hc hd hpc hpd => ?_, fun j => ?_⟩
      · rcases hcase c hc with ⟨hw, e⟩ | ⟨hw, e⟩
        · rw [e]
          exact ⟨fun _ => ⟨m, by omega, hw⟩, fun _ => by omega⟩
        · rw [e, ih1 c hc]
          constructor
          · rintro ⟨k, hk, hw2⟩; exact ⟨k, by omega, hw2⟩
          · rintro ⟨k, hk, hw2⟩
            by_cases ek : k = m
            · subst ek; exact absurd hw2 hw
            · exact ⟨k, by omega, hw2⟩
      · have r1 := ih3 (ci c)
        have r2 := ih3 (ci d)
        rcases hcase c hc with ⟨hw, e⟩ | ⟨hw, e⟩ <;> rcases hcase d hd with ⟨hw2, e2⟩ | ⟨hw2, e2⟩
        · rw [e, e2]
          exact ⟨fun _ => conn_trans (conn_symm hs hw) hw2, fun _ => rfl⟩
        · rw [e, e2]
          exact ⟨fun h => by omega, fun hcd => absurd (conn_trans hw hcd) hw2⟩
        · rw [e, e2]
          exact ⟨fun h => by omega, fun hcd => absurd (conn_trans hw2 (conn_symm hc hcd)) hw⟩
        · rw [e, e2]
          rw [e] at hpc
          rw [e2] at hpd
          exact ih2 c d hc hd hpc hpd
      · rw [setL_at]
        have := ih3 j
        split <;> omega
/-- the numbers of the yards -/
def numD (p : Nat → Int) : Nat → Int := (numS p (p 0).toNat ((p 1).toNat * (p 0).toNat)).1
theorem cellN_cel {p : Nat → Int} (hW : p 0 = ((p 0).toNat : Int)) (hH : p 1 = ((p 1).toNat : Int)) (hW10 : (p 0).toNat ≤ 10) (hH10 : (p 1).toNat ≤ 10) {k : Nat} (hk : k < (p 1).toNat * (p 0).toNat) : cel p (cellN (p 0).toNat k) := by
  have hm := cellL_mem (f := fun _ => true) (W := (p 0).toNat) (H := (p 1).toNat) (c := cellN (p 0).toNat k) (by unfold cellL; exact List.mem_filter.2 ⟨List.mem_map.2 ⟨k, List.mem_range.2 hk, rfl⟩, rfl⟩)
  unfold cel isC inB
  simp
  omega
theorem numD_conn {p : Nat → Int} (hW : p 0 = ((p 0).toNat : Int)) (hH : p 1 = ((p 1).toNat : Int)) (hW10 : (p 0).toNat ≤ 10) (hH10 : (p 1).toNat ≤ 10) {c d : Sp} (hc : cel p c) (hd : cel p d) : numD p (ci c) = numD p (ci d) ↔ conn p c d := by
  have hI := numS_inv (p := p) (by omega) (by omega) (W := (p 0).toNat) ((p 1).toNat * (p 0).toNat) fun k hk => cellN_cel hW hH hW10 hH10 hk
  have hpos : ∀ c, cel p c → 0 < numD p (ci c) := fun c hc => by
    have hc2 := hc
    unfold cel isC inB at hc2
    simp at hc2
    refine (hI.seen c hc).2 ⟨c.y.toNat * (p 0).toNat + c.x.toNat, ?_, ?_⟩
    · have h1 : c.y.toNat + 1 ≤ (p 1).toNat := by omega
      have h2 := Nat.mul_le_mul_right (p 0).toNat h1
      rw [Nat.succ_mul] at h2
      omega
    · have e : cellN (p 0).toNat (c.y.toNat * (p 0).toNat + c.x.toNat) = c := by
        rw [cellN_at _ (by omega)]
        obtain ⟨x, y⟩ := c
        simp only at hc2 ⊢
        congr 1 <;> omega
      rw [e]; exact conn_refl p c
  exact hI.same c d hc hd (hpos c hc) (hpos d hd)
theorem numS_cnt (p : Nat → Int) (W : Nat) : ∀ m, (numS p W m).2 ≤ m
  | 0 => Nat.le_refl _
  | m + 1 => by
    have := numS_cnt p W m
    rw [numS]; split
    · omega
    · simp only; omega
end Go.Proofs.Ytnfdefeafhepkaa
/- Yards of a pasture and hurdles within one yard, plainly. No condition. -/
namespace Go.Proofs.Ytnfdefeafhepkaa
set_option linter.unusedVariables false
set_option linter.unusedSimpArgs false
open Go.RowKit Mem Wk
open Classical
attribute [local irreducible] bfsN bfs
/-- some list holds the cell -/
noncomputable def inY (Y : List (List Sp)) (u : Sp) : Bool := Y.any fun l => decide (u ∈ l)
theorem inY_iff {Y : List (List Sp)} {u : Sp} : inY Y u = true ↔ ∃ l ∈ Y, u ∈ l := by unfold inY; simp
/-- the yards after m cells -/
noncomputable def ydS (p : Nat → Int) (W : Nat) : Nat → List (List Sp)
  | 0 => []
  | m + 1 => if inY (ydS p W m) (cellN W m) = true then ydS p W m else ydS p W m ++ [yardL p (cellN W m)]
theorem ydS_yes {p : Nat → Int} {W m : Nat} (h : inY (ydS p W m) (cellN W m) = true) : ydS p W (m + 1) = ydS p W m := by rw [ydS, if_pos h]
theorem ydS_no {p : Nat → Int} {W m : Nat} (h : inY (ydS p W m) (cellN W m) = false) : ydS p W (m + 1) = ydS p W m ++ [yardL p (cellN W m)] := by rw [ydS, if_neg (by rw [h]; decide)]
theorem ydS_len (p : Nat → Int) (W : Nat) : ∀ m, (ydS p W m).length ≤ m
  | 0 => Nat.le_refl _
  | m + 1 => by
    have := ydS_len p W m
    rw [ydS]; split
    · omega
    · simp; omega
theorem ydS_of {p : Nat → Int} {W : Nat} : ∀ m, (∀ k, k < m → cel p (cellN W k)) → ∀ l ∈ ydS p W m, ∃ a, cel p a ∧ l = yardL p a
  | 0, _ => fun l h => by cases h
  | m + 1, hm => fun l h => by
    rw [ydS] at h
    split at h
    · exact ydS_of m (fun k hk => hm k (by omega)) l h
    · rcases List.mem_append.1 h with h | h
      · exact ydS_of m (fun k hk => hm k (by omega)) l h
      · rw [List.mem_singleton] at h
        exact ⟨_, hm m (by omega), h⟩
theorem ydS_has {p : Nat → Int} (ha : p 0 ≤ 10) (hb : p 1 ≤ 10) {W : Nat} : ∀ m, (∀ k, k < m → cel p (cellN W k)) → ∀ k, k < m → inY (ydS p W m) (cellN W k) = true
  | 0, _ => fun k h => by omega
  | m + 1, hm => fun k hk => by
    rw [ydS]
    split
    · rename_i h
      by_cases e : k = m
      · subst e; exact h
      · exact ydS_has ha hb m (fun k hk => hm k (by omega)) k (by omega)
    · by_cases e : k = m
      · subst e
        exact inY_iff.2 ⟨yardL p (cellN W k), by simp, (yard_mem ha hb (hm k (by omega))).2 ⟨hm k (by omega), conn_refl _ _⟩⟩
      · obtain ⟨l, h1, h2⟩ := inY_iff.1 (ydS_has ha hb m (fun k hk => hm k (by omega)) k (by omega))
        exact inY_iff.2 ⟨l, by simp [h1], h2⟩
/-- the name of the last of the first n lists that holds the cell -/
noncomputable def nmK (Y : List (List Sp)) : Nat → Sp → Option Nat
  | 0, _ => none
  | i + 1, u => if u ∈ Y.getD i [] then some i else nmK Y i u
theorem nmK_some {Y : List (List Sp)} {u : Sp} : ∀ {n i : Nat}, nmK Y n u = some i → i < n ∧ u ∈ Y.getD i []
  | 0, i, h => by cases h
  | n + 1, i, h => by
    rw [nmK] at h
    split at h
    · injection h with h; subst h; exact ⟨by omega, by assumption⟩
    · have := nmK_some h; exact ⟨by omega, this.2⟩
theorem nmK_has {Y : List (List Sp)} {u : Sp} : ∀ {n i : Nat}, i < n → u ∈ Y.getD i [] → ∃ j, nmK Y n u = some j
  | 0, i, h, _ => by omega
  | n + 1, i, h, hu => by
    rw [nmK]
    split
    · exact ⟨_, rfl⟩
    · rename_i hn
      by_cases e : i = n
      · subst e; exact absurd hu hn
      · exact nmK_has (by omega) hu
theorem nmK_congr {Y : List (List Sp)} {u v : Sp} (h : ∀ i, u ∈ Y.getD i [] ↔ v ∈ Y.getD i []) : ∀ n, nmK Y n u = nmK Y n v
  | 0 => rfl
  | n + 1 => by
    rw [nmK, nmK, nmK_congr h n]
    by_cases e : u ∈ Y.getD n []
    · rw [if_pos e, if_pos ((h n).1 e)]
    · rw [if_neg e, if_neg fun q => e ((h n).2 q)]
noncomputable def nmV (Y : List (List Sp)) (u : Sp) : Int := (((nmK Y Y.length u).getD 0 : Nat) : Int)
/-- the yards of a pasture -/
noncomputable def ydP (p : Nat → Int) : List (List Sp) := ydS p (p 0).toNat ((p 1).toNat * (p 0).toNat)
theorem cel_N {p : Nat → Int} {c : Sp} (hc : cel p c) : ∃ k, k < (p 1).toNat * (p 0).toNat ∧ cellN (p 0).toNat k = c := by
  unfold cel isC inB at hc
  simp at hc
  refine ⟨c.y.toNat * (p 0).toNat + c.x.toNat, ?_, ?_⟩
  · have h1 : c.y.toNat + 1 ≤ (p 1).toNat := by omega
    have h2 := Nat.mul_le_mul_right (p 0).toNat h1
    rw [Nat.succ_mul] at h2
    omega
  · rw [cellN_at _ (by omega)]
    obtain ⟨x, y⟩ := c
    simp only at hc ⊢
    congr 1 <;> omega
theorem nmV_conn {p : Nat → Int} (hv : validP p = true) {c d : Sp} (hc : cel p c) (hd : cel p d) : nmV (ydP p) c = nmV (ydP p) d ↔ conn p c d := by
  obtain ⟨hW, hH, hW10, hH10⟩ := validP_dims hv
  have hcell : ∀ k, k < (p 1).toNat * (p 0).toNat → cel p (cellN (p 0).toNat k) := fun k hk => cellN_cel hW hH hW10 hH10 hk
  have hof : ∀ l ∈ ydP p, ∃ a, cel p a ∧ l = yardL p a := ydS_of _ hcell
  have hhas := ydS_has (p := p) (by omega) (by omega) _ hcell
  have hget : ∀ c i, c ∈ (ydP p).getD i [] → ∃ a, cel p a ∧ (ydP p).getD i [] = yardL p a := fun c i h => by
    by_cases hi : i < (ydP p).length
    · have e : (ydP p).getD i [] = (ydP p)[i] := by simp [List.getD, List.getElem?_eq_getElem hi]
      rw [e]; exact hof _ (List.getElem_mem hi)
    · have e : (ydP p).getD i [] = [] := by simp [List.getD, List.getElem?_eq_none (Nat.le_of_not_lt hi)]
      rw [e] at h; cases h
  have hsome : ∀ c, cel p c → ∃ j, nmK (ydP p) (ydP p).length c = some j := fun c hc => by
    obtain ⟨k, hk, e⟩ := cel_N hc
    have h1 := hhas k hk
    rw [e] at h1
    obtain ⟨l, h2, h3⟩ := inY_iff.1 h1
    obtain ⟨i, hi, he⟩ := List.mem_iff_getElem.1 h2
    have hi' : i < (ydP p).length := hi
    refine nmK_has hi' ?_
    have e : (ydP p).getD i [] = l := by
      have : (ydP p)[i]? = some l := by rw [List.getElem?_eq_getElem hi']; exact congrArg some he
      simp [List.getD, this]
    rw [e]; exact h3
  constructor
  · intro h
    obtain ⟨i, hi⟩ := hsome c hc
    obtain ⟨j, hj⟩ := hsome d hd
    unfold nmV at h
    rw [hi, hj] at h
    have h' : i = j := by simp at h; omega
    subst h'
    have m1 := (nmK_some hi).2
    have m2 := (nmK_some hj).2
    obtain ⟨a, ha1, ha2⟩ := hget _ _ m1
    rw [ha2] at m1 m2
    have c1 := ((yard_mem (by omega) (by omega) ha1).1 m1).2
    have c2 := ((yard_mem (by omega) (by omega) ha1).1 m2).2
    exact conn_trans (conn_symm ha1 c1) c2
  · intro h
    unfold nmV
    rw [nmK_congr fun i => ?_]
    constructor
    · intro m1
      obtain ⟨a, ha1, ha2⟩ := hget _ _ m1
      rw [ha2] at m1 ⊢
      exact (yard_mem (by omega) (by omega) ha1).2 ⟨hd, conn_trans ((yard_mem (by omega) (by omega) ha1).1 m1).2 h⟩
    · intro m1
      obtain ⟨a, ha1, ha2⟩ := hget _ _ m1
      rw [ha2] at m1 ⊢
      exact (yard_mem (by omega) (by omega) ha1).2 ⟨hc, conn_trans ((yard_mem (by omega) (by omega) ha1).1 m1).2 (conn_symm hc h)⟩
/-- the cell on the other side -/
def othP (h : Hd) : Sp := ⟨nextX h.x (sdOf h.s), nextY h.y (sdOf h.s)⟩
def atP (h : Hd) : Sp := ⟨h.x, h.y⟩
noncomputable def parts (Y : List (List Sp)) (h : Hd) : Bool := !decide (nmV Y (atP h) = nmV Y (othP h))
def sameD (p : Nat → Int) (h : Hd) : Bool := decide (numD p (ci (atP h)) = numD p (ci (othP h)))
/-- the hurdles within one yard -/
noncomputable def idL (p : Nat → Int) : List Hd := (hursL p).filter fun h => !parts (ydP p) h
/-- all sides within one yard -/
def drL (p : Nat → Int) : List Hd := sdL (fun h => isH p h && sameD p h) (p 0).toNat ((p 1).toNat * (p 0).toNat)
theorem idL_eq {p : Nat → Int} (hv : validP p = true) : idL p = (drL p).filter (stP p) := by
  unfold idL drL
  rw [hursL_eq, sdL_filter, sdL_filter]
  congr 1
  funext h
  cases hh : isH p h
  · simp
  · obtain ⟨hW, hH, hW10, hH10⟩ := validP_dims hv
    obtain ⟨h1, h2⟩ := isH_cells hh
    have e1 := nmV_conn hv (c := atP h) (d := othP h) h1 h2
    have e2 := numD_conn (p := p) hW hH hW10 hH10 (c := atP h) (d := othP h) h1 h2
    have e3 : parts (ydP p) h = !sameD p h := by
      unfold parts sameD
      by_cases hc : conn p (atP h) (othP h)
      · rw [decide_eq_true (e1.2 hc), decide_eq_true (e2.2 hc)]
      · rw [decide_eq_false fun q => hc (e1.1 q), decide_eq_false fun q => hc (e2.1 q)]
    rw [e3]
    simp [Bool.and_comm]
/-! bits of rows -/
theorem bvw2 (z : BitVec 16) : IntKind.u16.wrap ((z.toNat : Nat) : Int) = (z.toNat : Int) := by
  have := z.isLt
  exact wrap_in (by simp only [Wk.lo, Wk.hi]; omega)
theorem bvo2 (z : BitVec 16) : BitVec.ofInt 16 ((z.toNat : Nat) : Int) = z := by
  rw [BitVec.ofInt_natCast]; simp
theorem bitB_get (V : BitVec 16) {x : Nat} (hx : x < 10) : bitB ((V.toNat : Nat) : Int) (x : Int) = V.getLsbD x := by
  have e1 : shrV .u16 ((V.toNat : Nat) : Int) (x : Int) = (((V >>> x).toNat : Nat) : Int) := by
    unfold shrV
    have hm : min (x : Int).toNat IntKind.u16.bits = x := by simp [IntKind.bits]; omega
    rw [hm, BitVec.toNat_ushiftRight, Nat.shiftRight_eq_div_pow, Int.ofNat_fdiv]
    congr 1
  unfold bitB andV
  rw [e1]
  show decide (IntKind.u16.wrap (((BitVec.ofInt 16 (((V >>> x).toNat : Nat) : Int) &&& BitVec.ofInt 16 1).toNat : Nat) : Int) = 1) = _
  rw [bvw2, bvo2]
  have e2 : BitVec.ofInt 16 1 = 1#16 := rfl
  rw [e2, BitVec.toNat_and]
  have e3 : (V >>> x).toNat &&& (1#16).toNat = (V >>> x).toNat % 2 := by
    show (V >>> x).toNat &&& 1 = _
    rw [Nat.and_one_is_mod]
  rw [e3, BitVec.toNat_ushiftRight, Nat.shiftRight_eq_div_pow]
  show _ = V.toNat.testBit x
  rw [Nat.testBit_eq_decide_div_mod_eq]
  congr 1
  simp only [eq_iff_iff]
  omega
theorem shl_bit : ∀ x : Fin 10, BitVec.ofInt 16 (shlV .u16 1 (x.val : Int)) = 1#16 <<< x.val := by decide +kernel
theorem rowV_off (V : BitVec 16) (x : Int) : rowV ((V.toNat : Nat) : Int) x false = (((V &&& ~~~BitVec.ofInt 16 (shlV .u16 1 x)).toNat : Nat) : Int) := by
  unfold rowV
  rw [if_neg (by simp)]
  show IntKind.u16.wrap (((BitVec.ofInt 16 ((V.toNat : Nat) : Int) &&& ~~~BitVec.ofInt 16 (shlV .u16 1 x)).toNat : Nat) : Int) = _
  rw [bvw2, bvo2]
theorem row_ex {v : Int} (h0 : 0 ≤ v) (h1 : v ≤ 65535) : ∃ V : BitVec 16, v = ((V.toNat : Nat) : Int) := ⟨BitVec.ofNat 16 v.toNat, by
  rw [BitVec.toNat_ofNat, Nat.mod_eq_of_lt (by omega)]; omega⟩
/-- a bit that is not set stays so -/
theorem row_stay {v x z : Int} (h0 : 0 ≤ v ∧ v ≤ 65535) (hz : 0 ≤ z ∧ z < 10) (h : bitB v z = false) : bitB (rowV v x false) z = false := by
  obtain ⟨V, rfl⟩ := row_ex h0.1 h0.2
  obtain ⟨n, rfl⟩ : ∃ n : Nat, z = (n : Int) := ⟨z.toNat, by omega⟩
  rw [rowV_off, bitB_get _ (by omega)]
  rw [bitB_get _ (by omega)] at h
  rw [BitVec.getLsbD_and, h]; rfl
/-- clearing a bit that is not set changes nothing -/
theorem row_same {v x : Int} (h0 : 0 ≤ v ∧ v ≤ 65535) (hx : 0 ≤ x ∧ x < 10) (h : bitB v x = false) : rowV v x false = v := by
  obtain ⟨V, rfl⟩ := row_ex h0.1 h0.2
  obtain ⟨n, rfl⟩ : ∃ n : Nat, x = (n : Int) := ⟨x.toNat, by omega⟩
  rw [rowV_off]
  rw [bitB_get _ (by omega)] at h
  have hs := shl_bit ⟨n, by omega⟩
  simp only at hs
  rw [hs]
  congr 2
  apply BitVec.eq_of_getLsbD_eq
  intro i hi
  rw [BitVec.getLsbD_and, BitVec.getLsbD_not, BitVec.getLsbD_shiftLeft]
  by_cases e : i = n
  · subst e; rw [h]; rfl
  · by_cases hlt : i < n
    · simp [hlt, hi]
    · have : (1#16).getLsbD (i - n) = false := by
        rw [BitVec.getLsbD_one]
        simp; omega
      simp [this, hi]
def rowsIn (q : Nat → Int) : Prop := ∀ i, 102 ≤ i → i < 122 → 0 ≤ q i ∧ q i ≤ 65535
def hdIn (h : Hd) : Prop := (0 ≤ h.x ∧ h.x < 10) ∧ 0 ≤ h.y ∧ h.y < 10
theorem put_rows {q : Nat → Int} (hq : rowsIn q) {x y : Int} {s : Bool} : rowsIn (putP q x y s false) := fun i h1 h2 => by
  unfold putP
  split
  · by_cases e : i = 112 + y.toNat
    · rw [e, upd_at]; exact rowV_range _ _ _
    · rw [upd_ne _ _ e]; exact hq i h1 h2
  · by_cases e : i = 102 + y.toNat
    · rw [e, upd_at]; exact rowV_range _ _ _
    · rw [upd_ne _ _ e]; exact hq i h1 h2
theorem put_same {q : Nat → Int} (hq : rowsIn q) {h : Hd} (hin : hdIn h) (hs : stP q h = false) : putP q h.x h.y h.s false = q := by
  obtain ⟨u, v, s⟩ := h
  unfold stP standB at hs
  unfold putP
  obtain ⟨hx, hy⟩ := hin
  simp only at hx hy hs ⊢
  cases s
  · simp only [Bool.false_eq_true, if_false] at hs ⊢
    rw [row_same (hq _ (by omega) (by omega)) hx hs]
    exact upd_id _ _
  · simp only [if_true] at hs ⊢
    rw [row_same (hq _ (by omega) (by omega)) hx hs]
    exact upd_id _ _
theorem put_stay {q : Nat → Int} (hq : rowsIn q) {a h : Hd} (hin : hdIn h) (hina : hdIn a) (hs : stP q h = false) : stP (putP q a.x a.y a.s false) h = false := by
  obtain ⟨u, v, s⟩ := h
  obtain ⟨ua, va, sa⟩ := a
  unfold stP standB at hs ⊢
  unfold putP
  obtain ⟨hx, hy⟩ := hin
  obtain ⟨hxa, hya⟩ := hina
  simp only at hx hy hxa hya hs ⊢
  cases s <;> cases sa <;> simp only [Bool.false_eq_true, if_false, if_true] at hs ⊢
  · by_cases e : v = va
    · rw [e] at hs ⊢
      rw [upd_at]
      exact row_stay (hq _ (by omega) (by omega)) hx hs
    · rw [upd_ne _ _ (by omega)]; exact hs
  · rw [upd_ne _ _ (by omega)]; exact hs
  · rw [upd_ne _ _ (by omega)]; exact hs
  · by_cases e : v = va
    · rw [e] at hs ⊢
      rw [upd_at]
      exact row_stay (hq _ (by omega) (by omega)) hx hs
    · rw [upd_ne _ _ (by omega)]; exact hs
theorem fold_filt {p : Nat → Int} : ∀ (l : List Hd) (q : Nat → Int), rowsIn q → (∀ h, hdIn h → stP p h = false → stP q h = false) → (∀ h ∈ l, hdIn h) → foldP q (l.filter (stP p)) false = foldP q l false
  | [], q, _, _, _ => rfl
  | a :: l, q, hq, hst, hin => by
    have ha := hin a (by simp)
    have hin' : ∀ h ∈ l, hdIn h := fun h hm => hin h (by simp [hm])
    cases hs : stP p a
    · rw [List.filter_cons, hs]
      simp only [Bool.false_eq_true, if_false]
      rw [fold_filt l q hq hst hin']
      show _ = foldP (putP q a.x a.y a.s false) l false
      rw [put_same hq ha (hst a ha hs)]
    · rw [List.filter_cons, hs]
      simp only [if_true]
      show foldP (putP q a.x a.y a.s false) (l.filter (stP p)) false = foldP (putP q a.x a.y a.s false) l false
      exact fold_filt l _ (put_rows hq) (fun h h1 h2 => put_stay hq h1 ha (hst h h1 h2)) hin'
theorem drop_eq {p : Nat → Int} (hv : validP p = true) (hr : rowsIn p) : foldP p (idL p) false = foldP p (drL p) false := by
  rw [idL_eq hv]
  refine fold_filt _ _ hr (fun h _ hs => hs) fun h hm => ?_
  have := sdL_mem (f := fun h => isH p h && sameD p h) hm
  simp only [Bool.and_eq_true] at this
  have := isC_range (isH_cells this.1).1
  exact ⟨⟨this.1, this.2.1⟩, this.2.2⟩
end Go.Proofs.Ytnfdefeafhepkaa
