import Derived.Test.YtpifngdmlmfnhaaQD09
import Derived.Test.YtpifngdmlmfnhaaQD22
/- Yards: that one cell can be reached from another is an equivalence; numbers of yards. Plain, no condition. -/
namespace Go.Proofs.Ytpifngdmlmfnhaa
set_option linter.unusedVariables false
set_option linter.unusedSimpArgs false
open Go.RowKit Mem Wk
attribute [local irreducible] bfsN bfs
/-- b can be reached from a -/
def conn (p : Nat → Int) (a b : Sp) : Prop := Way (nbP p) (· = a) b
def cel (p : Nat → Int) (c : Sp) : Prop := isC (p 0) (p 1) c.x c.y = true
theorem conn_refl (p : Nat → Int) (a : Sp) : conn p a a := Way.start rfl
theorem conn_trans {p : Nat → Int} {a b c : Sp} (h1 : conn p a b) (h2 : conn p b c) : conn p a c := by
  induction h2 with
  | start h => rw [h]; exact h1
  | step _ h ih => exact Way.step ih h
theorem nbP_cel {p : Nat → Int} {a b : Sp} (h : b ∈ nbP p a) : cel p b := besL_inR h
theorem besL_ex {p : Nat → Int} {x y : Int} {c : Sp} : ∀ {k : Nat}, c ∈ besL p x y k ↔ ∃ s : Nat, s < k ∧ canB p x y (s : Int) = true ∧ c = ⟨nextX x (s : Int), nextY y (s : Int)⟩
  | k => by
    unfold besL
    rw [List.mem_map]
    constructor
    · rintro ⟨s, hs, rfl⟩
      obtain ⟨h1, h2⟩ := List.mem_filter.1 hs
      exact ⟨s, List.mem_range.1 h1, h2, rfl⟩
    · rintro ⟨s, h1, h2, rfl⟩
      exact ⟨s, List.mem_filter.2 ⟨List.mem_range.2 h1, h2⟩, rfl⟩
theorem nbP_symm {p : Nat → Int} {a b : Sp} (ha : cel p a) (h : b ∈ nbP p a) : a ∈ nbP p b := by
  obtain ⟨s, hs, hc, rfl⟩ := besL_ex.1 h
  unfold canB at hc
  rw [Bool.and_eq_true] at hc
  obtain ⟨h1, h2⟩ := hc
  unfold cel at ha
  refine besL_ex.2 ?_
  have h4 : s = 0 ∨ s = 1 ∨ s = 2 ∨ s = 3 := by omega
  obtain ⟨x, y⟩ := a
  simp only at ha h1 h2 ⊢
  rcases h4 with rfl | rfl | rfl | rfl
  · refine ⟨2, by omega, ?_, ?_⟩
    · unfold canB
      simp [nextX, nextY, hdX, hdY, hdS] at h1 h2 ⊢
      exact ⟨ha, h2⟩
    · simp [nextX, nextY]
  · refine ⟨3, by omega, ?_, ?_⟩
    · unfold canB
      simp [nextX, nextY, hdX, hdY, hdS] at h1 h2 ⊢
      exact ⟨ha, h2⟩
    · simp [nextX, nextY]
  · refine ⟨0, by omega, ?_, ?_⟩
    · unfold canB
      simp [nextX, nextY, hdX, hdY, hdS] at h1 h2 ⊢
      exact ⟨ha, h2⟩
    · simp [nextX, nextY]
  · refine ⟨1, by omega, ?_, ?_⟩
    · unfold canB
      simp [nextX, nextY, hdX, hdY, hdS] at h1 h2 ⊢
      exact ⟨ha, h2⟩
    · simp [nextX, nextY]
theorem conn_cel {p : Nat → Int} {a b : Sp} (ha : cel p a) (h : conn p a b) : cel p b := by
  cases h with
  | start h => rw [h]; exact ha
  | step _ h => exact nbP_cel h
theorem conn_symm {p : Nat → Int} {a b : Sp} (ha : cel p a) (h : conn p a b) : conn p b a := by
  induction h with
  | start h => rw [h]; exact conn_refl p a
  | @step c d h1 h2 ih => exact conn_trans (Way.step (Way.start rfl) (nbP_symm (conn_cel ha h1) h2)) ih
theorem way_ex {p : Nat → Int} {l : List Sp} {c : Sp} : Way (nbP p) (· ∈ l) c ↔ ∃ a ∈ l, conn p a c := by
  constructor
  · intro h
    induction h with
    | start h => exact ⟨_, h, conn_refl p _⟩
    | step _ h ih => obtain ⟨a, h1, h2⟩ := ih; exact ⟨a, h1, Way.step h2 h⟩
  · rintro ⟨a, h1, h2⟩
    induction h2 with
    | start h => rw [h]; exact Way.start h1
    | step _ h ih => exact Way.step ih h
theorem steps_ex {p : Nat → Int} {l : List Sp} (hl : ∀ c ∈ l, inR c) {c : Sp} (hc : inR c) : (stepsP p l).1 (ci c) ≠ 0 ↔ ∃ a ∈ l, conn p a c := by
  rw [← way_ex]
  unfold stepsP
  exact bfs_ne (bi0 hl) (nbP_ok p) hc
theorem str_conn {p : Nat → Int} {a c : Sp} (ha : inR a) (hc : inR c) : 0 < strD p a (ci c) ↔ conn p a c := by
  have h := steps_ex (p := p) (l := [a]) (fun c h => by rw [List.mem_singleton] at h; subst h; exact ha) hc
  have hv := strD_val p ha (ci c)
  unfold strD at hv ⊢
  generalize (stepsP p [a]).1 (ci c) = n at *
  constructor
  · intro h0
    obtain ⟨b, hb, hcn⟩ := h.1 (by omega)
    rw [List.mem_singleton] at hb; subst hb; exact hcn
  · intro hcn
    have := h.2 ⟨a, List.mem_singleton.2 rfl, hcn⟩
    omega
/-- numbers: what cells of a list are given -/
def setL (D : Nat → Int) (v : Int) (l : List Sp) : Nat → Int := l.foldl (fun D c => upd D (ci c) v) D
theorem setL_snoc (D : Nat → Int) (v : Int) {l : List Sp} {k : Nat} {c : Sp} (h : l[k]? = some c) : setL D v (l.take (k + 1)) = upd (setL D v (l.take k)) (ci c) v := by
  unfold setL; rw [List.take_add_one, h, List.foldl_append]; rfl
theorem setL_at (v : Int) (j : Nat) : ∀ (l : List Sp) (D : Nat → Int), setL D v l j = if j ∈ l.map ci then v else D j
  | [], D => by simp [setL]
  | c :: l, D => by
    have ih := setL_at v j l (upd D (ci c) v)
    unfold setL at ih ⊢
    rw [List.foldl_cons, ih, List.map_cons]
    by_cases h1 : j ∈ l.map ci
    · rw [if_pos h1, if_pos (List.mem_cons_of_mem _ h1)]
    · rw [if_neg h1]
      by_cases h2 : j = ci c
      · subst h2; rw [upd_at, if_pos List.mem_cons_self]
      · rw [upd_ne _ _ h2, if_neg (by rw [List.mem_cons]; exact fun h => h.elim h2 h1)]
/-- the table and the count after m cells -/
def numS (p : Nat → Int) (W : Nat) : Nat → (Nat → Int) × Nat
  | 0 => (fun _ => 0, 0)
  | m + 1 => if 0 < (numS p W m).1 (ci (cellN W m)) then numS p W m else (setL (numS p W m).1 ((numS p W m).2 + 1 : Nat) (yardL p (cellN W m)), (numS p W m).2 + 1)
theorem numS_yes {p : Nat → Int} {W m : Nat} (h : 0 < (numS p W m).1 (ci (cellN W m))) : numS p W (m + 1) = numS p W m := by rw [numS, if_pos h]
theorem numS_no {p : Nat → Int} {W m : Nat} (h : ¬ 0 < (numS p W m).1 (ci (cellN W m))) : numS p W (m + 1) = (setL (numS p W m).1 ((numS p W m).2 + 1 : Nat) (yardL p (cellN W m)), (numS p W m).2 + 1) := by rw [numS, if_neg h]
theorem yard_mem {p : Nat → Int} {a c : Sp} (ha10 : p 0 ≤ 10) (hb10 : p 1 ≤ 10) (ha : cel p a) : c ∈ yardL p a ↔ cel p c ∧ conn p a c := by
  have hra : inR a := isC_range ha
  obtain ⟨hW, hH, _, _⟩ := dims ha10 hb10 ha
  constructor
  · intro h
    have h1 := pasL_isC ha10 hb10 h
    refine ⟨h1.1, (str_conn hra (isC_range h1.1)).1 ?_⟩
    have := h1.2
    unfold yardF at this
    simp at this
    omega
  · rintro ⟨h1, h2⟩
    have hrc : inR c := isC_range h1
    have h3 := (str_conn (p := p) hra hrc).2 h2
    unfold cel isC inB at h1
    simp at h1
    unfold yardL pasL
    refine cellL_in ?_ (by omega) (by omega)
    unfold yardF
    simp
    omega
structure NumI (p : Nat → Int) (W : Nat) (m : Nat) (D : Nat → Int) (n : Nat) : Prop where
  seen : ∀ c, cel p c → (0 < D (ci c) ↔ ∃ k, k < m ∧ conn p (cellN W k) c)
  same : ∀ c d, cel p c → cel p d → 0 < D (ci c) → 0 < D (ci d) → (D (ci c) = D (ci d) ↔ conn p c d)
  rng : ∀ j, 0 ≤ D j ∧ D j ≤ n
theorem numS_inv {p : Nat → Int} (ha : p 0 ≤ 10) (hb : p 1 ≤ 10) {W : Nat} : ∀ m, (∀ k, k < m → cel p (cellN W k)) → NumI p W m (numS p W m).1 (numS p W m).2
  | 0, _ => ⟨fun c hc => by simp [numS], fun c d hc hd h => by simp [numS] at h, fun j => by simp [numS]⟩
  | m + 1, hm => by
    have ih := numS_inv ha hb m fun k hk => hm k (by omega)
    have hs := hm m (by omega)
    by_cases h : 0 < (numS p W m).1 (ci (cellN W m))
    · rw [numS_yes h]
      refine ⟨fun c hc => ?_, ih.same, ih.rng⟩
      rw [ih.seen c hc]
      constructor
      · rintro ⟨k, hk, hw⟩; exact ⟨k, by omega, hw⟩
      · rintro ⟨k, hk, hw⟩
        by_cases e : k = m
        · subst e
          obtain ⟨j, hj, hw2⟩ := (ih.seen _ hs).1 h
          exact ⟨j, hj, conn_trans hw2 hw⟩
        · exact ⟨k, by omega, hw⟩
    · rw [numS_no h]
      have ih1 := ih.seen
      have ih2 := ih.same
      have ih3 := ih.rng
      generalize numS p W m = q at *
      obtain ⟨D, n⟩ := q
      simp only at h ih1 ih2 ih3 ⊢
      have hin : ∀ c, cel p c → (ci c ∈ (yardL p (cellN W m)).map ci ↔ conn p (cellN W m) c) := fun c hc => by
        rw [List.mem_map]
        constructor
        · rintro ⟨d, hd, e⟩
          have h1 := (yard_mem ha hb hs).1 hd
          have := ci_inj (isC_range h1.1) (isC_range hc) e
          subst this; exact h1.2
        · intro hw; exact ⟨c, (yard_mem ha hb hs).2 ⟨hc, hw⟩, rfl⟩
      have hcase : ∀ c, cel p c → (conn p (cellN W m) c ∧ setL D ((n + 1 : Nat) : Int) (yardL p (cellN W m)) (ci c) = ((n + 1 : Nat) : Int)) ∨ (¬ conn p (cellN W m) c ∧ setL D ((n + 1 : Nat) : Int) (yardL p (cellN W m)) (ci c) = D (ci c)) := fun c hc => by
        rw [setL_at]
        by_cases hw : conn p (cellN W m) c
        · left; exact ⟨hw, by rw [if_pos ((hin c hc).2 hw)]⟩
        · right; exact ⟨hw, by rw [if_neg (fun h => hw ((hin c hc).1 h))]⟩
      refine ⟨fun c hc => ?_, fun c d hc hd hpc hpd => ?_, fun j => ?_⟩
      · rcases hcase c hc with ⟨hw, e⟩ | ⟨hw, e⟩
        · rw [e]
          exact ⟨fun _ => ⟨m, by omega, hw⟩, fun _ => by omega⟩
        · rw [e, ih1 c hc]
          constructor
          · rintro ⟨k, hk, hw2⟩; exact ⟨k, by omega, hw2⟩
          · rintro ⟨k, hk, hw2⟩
            by_cases ek : k = m
            · subst ek; exact absurd hw2 hw
            · exact ⟨k, by omega, hw2⟩
      · have r1 := ih3 (ci c)
        have r2 := ih3 (ci d)
        rcases hcase c hc with ⟨hw, e⟩ | ⟨hw, e⟩ <;> rcases hcase d hd with ⟨hw2, e2⟩ | ⟨hw2, e2⟩
        · rw [e, e2]
          exact ⟨fun _ => conn_trans (conn_symm hs hw) hw2, fun _ => rfl⟩
        · rw [e, e2]
          exact ⟨fun h => by omega, fun hcd => absurd (conn_trans hw hcd) hw2⟩
        · rw [e, e2]
          exact ⟨fun h => by omega, fun hcd => absurd (conn_trans hw2 (conn_symm hc hcd)) hw⟩
        · rw [e, e2]
          rw [e] at hpc
          rw [e2] at hpd
          exact ih2 c d hc hd hpc hpd
      · rw [setL_at]
        have := ih3 j
        split <;> omega
/-- the numbers of the yards -/
def numD (p : Nat → Int) : Nat → Int := (numS p (p 0).toNat ((p 1).toNat * (p 0).toNat)).1
theorem cellN_cel {p : Nat → Int} (hW : p 0 = ((p 0).toNat : Int)) (hH : p 1 = ((p 1).toNat : Int)) (hW10 : (p 0).toNat ≤ 10) (hH10 : (p 1).toNat ≤ 10) {k : Nat} (hk : k < (p 1).toNat * (p 0).toNat) : cel p (cellN (p 0).toNat k) := by
  have hm := cellL_mem (f := fun _ => true) (W := (p 0).toNat) (H := (p 1).toNat) (c := cellN (p 0).toNat k) (by unfold cellL; exact List.mem_filter.2 ⟨List.mem_map.2 ⟨k, List.mem_range.2 hk, rfl⟩, rfl⟩)
  unfold cel isC inB
  simp
  omega
theorem numD_conn {p : Nat → Int} (hW : p 0 = ((p 0).toNat : Int)) (hH : p 1 = ((p 1).toNat : Int)) (hW10 : (p 0).toNat ≤ 10) (hH10 : (p 1).toNat ≤ 10) {c d : Sp} (hc : cel p c) (hd : cel p d) : numD p (ci c) = numD p (ci d) ↔ conn p c d := by
  have hI := numS_inv (p := p) (by omega) (by omega) (W := (p 0).toNat) ((p 1).toNat * (p 0).toNat) fun k hk => cellN_cel hW hH hW10 hH10 hk
  have hpos : ∀ c, cel p c → 0 < numD p (ci c) := fun c hc => by
    have hc2 := hc
    unfold cel isC inB at hc2
    simp at hc2
    refine (hI.seen c hc).2 ⟨c.y.toNat * (p 0).toNat + c.x.toNat, ?_, ?_⟩
    · have h1 : c.y.toNat + 1 ≤ (p 1).toNat := by omega
      have h2 := Nat.mul_le_mul_right (p 0).toNat h1
      rw [Nat.succ_mul] at h2
      omega
    · have e : cellN (p 0).toNat (c.y.toNat * (p 0).toNat + c.x.toNat) = c := by
        rw [cellN_at _ (by omega)]
        obtain ⟨x, y⟩ := c
        simp only at hc2 ⊢
        congr 1 <;> omega
      rw [e]; exact conn_refl p c
  exact hI.same c d hc hd (hpos c hc) (hpos d hd)
theorem numD_rng {p : Nat → Int} (hW : p 0 = ((p 0).toNat : Int)) (hH : p 1 = ((p 1).toNat : Int)) (hW10 : (p 0).toNat ≤ 10) (hH10 : (p 1).toNat ≤ 10) : ∀ m, m ≤ (p 1).toNat * (p 0).toNat → ∀ j, 0 ≤ (numS p (p 0).toNat m).1 j ∧ (numS p (p 0).toNat m).1 j ≤ (numS p (p 0).toNat m).2 := fun m hm j =>
  (numS_inv (p := p) (by omega) (by omega) (W := (p 0).toNat) m fun k hk => cellN_cel hW hH hW10 hH10 (by omega)).rng j
theorem numS_cnt (p : Nat → Int) (W : Nat) : ∀ m, (numS p W m).2 ≤ m
  | 0 => Nat.le_refl _
  | m + 1 => by
    have := numS_cnt p W m
    rw [numS]; split
    · omega
    · simp only; omega
end Go.Proofs.Ytpifngdmlmfnhaa
/- The cells reached from a stake and their grass: the reference's. No condition. -/
namespace Go.Proofs.Ytpifngdmlmfnhaa
set_option linter.unusedVariables false
set_option linter.unusedSimpArgs false
open Go.RowKit Mem Wk
attribute [local irreducible] Calls Wk.S Wk.C Wk.E Wk.X Wk.T Wk.Y Wk.anV Wk.orV Wk.andV Wk.shlV Wk.shrV Calm.wpLex CalmB.wpLex bfsN
/-- a table of a test of cells -/
def tbl (F : Sp → Bool) (j : Nat) : Bool := F (cellN 10 j)
/-- y rows and x more cells have been filled in -/
def done (F : Sp → Bool) (y x : Nat) (j : Nat) : Bool := (decide (j / 10 < y) || (decide (j / 10 = y) && decide (j % 10 < x))) && tbl F j
end Go.Proofs.Ytpifngdmlmfnhaa
/- ReachOf, FoodOf, LeastReach: both functions. No condition. -/
namespace Go.Proofs.Ytpifngdmlmfnhaa
set_option linter.unusedVariables false
set_option linter.unusedSimpArgs false
open Go.RowKit Mem Wk
attribute [local irreducible] Calls Wk.S Wk.C Wk.E Wk.X Wk.T Wk.Y Wk.anV Wk.orV Wk.andV Wk.shlV Wk.shrV Calm.wpLex CalmB.wpLex bfsN
theorem valid_le2 {p : Nat → Int} (h : validP p = true) : p 0 ≤ 10 ∧ p 1 ≤ 10 := by
  unfold validP inB at h; simp at h; omega
end Go.Proofs.Ytpifngdmlmfnhaa
/- The cells that two stakes have in common: both functions. No condition. -/
namespace Go.Proofs.Ytpifngdmlmfnhaa
set_option linter.unusedVariables false
set_option linter.unusedSimpArgs false
open Go.RowKit Mem Wk
namespace Wk
open Calm
variable {P : Program} {n : Nat} {O : List Nat} {w0 : World} {l : List (Nat × Value)} {N L : List (Nat × TypeId × Array Value)} {Q : Exit → Act → World → Prop} {ops : Array Oper} {o : Oper} {rest : List Oper} {k d : Nat} {pl : Nat → CalmB.Plan} {v : Value}
end Wk
attribute [local irreducible] Calls Wk.S Wk.C Wk.E Wk.X Wk.T Wk.Y Wk.anV Wk.orV Wk.andV Wk.shlV Wk.shrV Calm.wpLex CalmB.wpLex bfsN
theorem inR_nat {c : Sp} (h : inR c) : ∃ a b : Nat, c = ⟨(a : Int), (b : Int)⟩ ∧ a < 10 ∧ b < 10 := by
  obtain ⟨x, y⟩ := c
  unfold inR at h; simp only at h
  exact ⟨x.toNat, y.toNat, by congr 1 <;> omega, by omega, by omega⟩
theorem Wk.Ap.xy {n cap : Nat} {cur : Array Value} {l : List Sp} (h : Ap 2 n cap cur (flS l)) {i : Nat} {s : Sp} (hi : l[i]? = some s) : cur[0 + i * 2]? = some (.int .i8 s.x) ∧ cur[0 + i * 2 + 1]? = some (.int .i8 s.y) := by
  obtain ⟨h1, h2⟩ := h.spot hi
  have e0 := congrArg (fun a : Array Value => a[0]?) h2
  have e1 := congrArg (fun a : Array Value => a[1]?) h2
  simp only [Array.getElem?_extract] at e0 e1
  rw [if_pos (by omega)] at e0 e1
  exact ⟨e0, e1⟩
end Go.Proofs.Ytpifngdmlmfnhaa
/- Lists of lists of cells; the cells that each of some stakes reaches: the program's. No condition. -/
namespace Go.Proofs.Ytpifngdmlmfnhaa
set_option linter.unusedVariables false
set_option linter.unusedSimpArgs false
open Go.RowKit Mem Wk
attribute [local irreducible] Calls Wk.S Wk.C Wk.E Wk.X Wk.T Wk.Y Wk.anV Wk.orV Wk.andV Wk.shlV Wk.shrV Calm.wpLex CalmB.wpLex bfsN
theorem uSS : Try.prog.underlying 76 = some (.slice 40) := by kernel_rfl
theorem iSS : (Try.prog.info? 40).map (fun i => (i.zero, i.size, i.bytes)) = some (some (.slice none 0 0), 1, 24) := by kernel_rfl
theorem slSS0 (w : World) : (Instr.buildSlice 76 0 #[]).run Try.prog w = .ok (.slice (some ⟨w.heap.size, 0, none⟩) 0 0) (w.alloc (.cells #[] 40 (0, 0))) := by kernel_rfl
theorem slSS1 (a : Option Addr) (m c : Nat) (w : World) : (Instr.buildSlice 76 1 #[(0, .slice a m c)]).run Try.prog w = .ok (.slice (some ⟨w.heap.size, 0, none⟩) 1 1) (w.alloc (.cells #[.slice a m c] 40 (0, 0))) := by kernel_rfl
end Go.Proofs.Ytpifngdmlmfnhaa
