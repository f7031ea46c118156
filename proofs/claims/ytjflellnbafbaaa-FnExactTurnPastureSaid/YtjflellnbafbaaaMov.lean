/- A pasture whose cells come from those of another one. No condition. -/
import Derived.Test.YtjflellnbafbaaaClo
import Derived.Test.YtjflellnbafbaaaEqs
namespace Go.Proofs.Ytjflellnbafbaaa
set_option linter.unusedVariables false
set_option linter.unusedSimpArgs false
open Go.RowKit Mem Wk
attribute [local irreducible] Calls Wk.S Wk.C Wk.E Wk.X Wk.T Wk.anV Wk.orV Wk.andV Wk.shlV Wk.shrV Calm.wpLex

theorem Pv.set8 {p : Nat → Int} {cs : Array Value} {i : Nat} {v : Int} (hp : Pv p cs) (h2 : i < 2) (h3 : -128 ≤ v ∧ v ≤ 127) : Pv (upd p i v) (cs.setIfInBounds i (.int .i8 v)) := by
  refine ⟨by simp [hp.size], fun j hj => ?_, fun j h => ?_, fun j h h' => by rw [upd_ne _ _ (by omega)]; exact hp.i16 j h h', fun j h h' => by rw [upd_ne _ _ (by omega)]; exact hp.u16 j h h'⟩
  · by_cases e : j = i
    · subst e
      have : pk j = .i8 := by unfold pk; rw [if_pos h2]
      rw [this, upd_at]; have h122 : j < 122 := by omega
      simp [hp.size, h122]
    · rw [upd_ne _ _ e, Array.getElem?_setIfInBounds_ne (by omega)]; exact hp.get j hj
  · by_cases e : j = i
    · subst e; rw [upd_at]; exact h3
    · rw [upd_ne _ _ e]; exact hp.i8 j h
theorem Pv.setGrassA {p : Nat → Int} {cs : Array Value} {x y v : Int} (hp : Pv p cs) (hx : 0 ≤ x ∧ x < 10) (hy : 0 ≤ y ∧ y < 10) (h3 : -32768 ≤ v ∧ v ≤ 32767) : Pv (upd p (gi x y) v) (cs.setIfInBounds (0 + 2 + y.toNat * 10 + x.toNat * 1) (.int .i16 v)) := by
  have h := gi_lt hx hy
  have e : 0 + 2 + y.toNat * 10 + x.toNat * 1 = gi x y := by unfold gi; omega
  rw [e]; exact hp.setGrass h.1 h.2 h3
def zP2 (a b : Int) : Array Value := ((Value.int .i8 a :: Value.int .i8 b :: List.replicate 100 (Value.int .i16 0)) ++ List.replicate 20 (Value.int .u16 0)).toArray
theorem bPas2 (a b : Int) (w : World) : (Instr.build 43 #[(0, .int .i8 a), (1, .int .i8 b)]).run Try.prog w = .ok (.agg (zP2 a b)) w := by kernel_rfl
/-- an empty pasture -/
def base (a b : Int) : Nat → Int := upd (upd (fun _ => 0) 0 a) 1 b
theorem zP2_eq (a b : Int) : zP2 a b = (zP.setIfInBounds 0 (.int .i8 a)).setIfInBounds 1 (.int .i8 b) := by kernel_rfl
theorem zP2_pv {a b : Int} (ha : -128 ≤ a ∧ a ≤ 127) (hb : -128 ≤ b ∧ b ≤ 127) : Pv (base a b) (zP2 a b) := by
  rw [zP2_eq]
  exact (zP_pv.set8 (i := 0) (by omega) ha).set8 (i := 1) (by omega) hb
/-- where cells come from; the side that goes to where the next one comes from -/
structure MvOk (W H : Nat) (mx my : Int → Int → Int) (kk : Int → Int) : Prop where
  rng : ∀ x y : Int, 0 ≤ x ∧ x < W → 0 ≤ y ∧ y < H → (0 ≤ mx x y ∧ mx x y < 10) ∧ 0 ≤ my x y ∧ my x y < 10
  dir : ∀ x y s k : Int, s = 1 ∨ s = 2 → 0 ≤ k → k < 4 → 0 ≤ x ∧ x < W → 0 ≤ y ∧ y < H → 0 ≤ nextX x s ∧ nextX x s < W → 0 ≤ nextY y s ∧ nextY y s < H → (decide (nextX (mx x y) k = mx (nextX x s) (nextY y s)) && decide (nextY (my x y) k = my (nextX x s) (nextY y s))) = decide (k = kk s)
  kr : ∀ s : Int, s = 1 ∨ s = 2 → 0 ≤ kk s ∧ kk s < 4
def sideQ (p : Nat → Int) (W H : Nat) (mx my : Int → Int → Int) (kk : Int → Int) (x y s : Int) (q : Nat → Int) : Nat → Int :=
  if isC (W : Int) (H : Int) (nextX x s) (nextY y s) && !canB p (mx x y) (my x y) (kk s) then putP q (hdX x s) (hdY y s) (hdS s) true else q
def grassQ (p : Nat → Int) (mx my : Int → Int → Int) (x y : Int) (q : Nat → Int) : Nat → Int := upd q (gi x y) (p (gi (mx x y) (my x y)))
def cellQ (p : Nat → Int) (W H : Nat) (mx my : Int → Int → Int) (kk : Int → Int) (x y : Int) (q : Nat → Int) : Nat → Int := sideQ p W H mx my kk x y 2 (sideQ p W H mx my kk x y 1 (grassQ p mx my x y q))
/-- the first k cells of the moved pasture -/
def mvQ (p : Nat → Int) (W H : Nat) (mx my : Int → Int → Int) (kk : Int → Int) : Nat → Nat → Int
  | 0 => base W H
  | k + 1 => cellQ p W H mx my kk (cellN W k).x (cellN W k).y (mvQ p W H mx my kk k)
/-- the first j sides of a cell -/
def sidesQ (p : Nat → Int) (W H : Nat) (mx my : Int → Int → Int) (kk : Int → Int) (x y : Int) (q : Nat → Int) : Nat → Nat → Int
  | 0 => grassQ p mx my x y q
  | j + 1 => sideQ p W H mx my kk x y ((j : Int) + 1) (sidesQ p W H mx my kk x y q j)
theorem sidesQ2 (p : Nat → Int) (W H : Nat) (mx my : Int → Int → Int) (kk : Int → Int) (x y : Int) (q : Nat → Int) : sidesQ p W H mx my kk x y q 2 = cellQ p W H mx my kk x y q := rfl
theorem putP_keep (q : Nat → Int) (x y : Int) (s on : Bool) {i : Nat} (h : i < 102) : putP q x y s on i = q i := by
  unfold putP; split <;> exact upd_ne _ _ (by omega)
theorem sideQ_keep (p : Nat → Int) (W H : Nat) (mx my : Int → Int → Int) (kk : Int → Int) (x y s : Int) (q : Nat → Int) {i : Nat} (h : i < 102) : sideQ p W H mx my kk x y s q i = q i := by
  unfold sideQ; split
  · exact putP_keep _ _ _ _ _ h
  · rfl
theorem sidesQ_keep (p : Nat → Int) (W H : Nat) (mx my : Int → Int → Int) (kk : Int → Int) (x y : Int) (q : Nat → Int) {i : Nat} (h : i < 2) : ∀ j, sidesQ p W H mx my kk x y q j i = q i
  | 0 => upd_ne _ _ (by unfold gi; omega)
  | j + 1 => by unfold sidesQ; rw [sideQ_keep _ _ _ _ _ _ _ _ _ _ (by omega)]; exact sidesQ_keep p W H mx my kk x y q h j
theorem mvQ_keep (p : Nat → Int) (W H : Nat) (mx my : Int → Int → Int) (kk : Int → Int) : ∀ k, mvQ p W H mx my kk k 0 = (W : Int) ∧ mvQ p W H mx my kk k 1 = (H : Int)
  | 0 => ⟨rfl, rfl⟩
  | k + 1 => by
    unfold mvQ
    rw [← sidesQ2, sidesQ_keep _ _ _ _ _ _ _ _ _ (by omega), sidesQ_keep _ _ _ _ _ _ _ _ _ (by omega)]
    exact mvQ_keep p W H mx my kk k
/-- the first k directions of a side -/
def dirQ (p : Nat → Int) (mx my : Int → Int → Int) (kk : Int → Int) (x y s : Int) (q : Nat → Int) (k : Int) : Nat → Int :=
  if decide (kk s < k) && !canB p (mx x y) (my x y) (kk s) then putP q (hdX x s) (hdY y s) (hdS s) true else q
theorem dirQ_0 {p : Nat → Int} {mx my : Int → Int → Int} {kk : Int → Int} {x y s : Int} {q : Nat → Int} (h : 0 ≤ kk s) : dirQ p mx my kk x y s q 0 = q := by
  unfold dirQ; rw [decide_eq_false (by omega)]; rfl
theorem dirQ_ne {p : Nat → Int} {mx my : Int → Int → Int} {kk : Int → Int} {x y s k : Int} {q : Nat → Int} (h : k ≠ kk s) : dirQ p mx my kk x y s q (k + 1) = dirQ p mx my kk x y s q k := by
  unfold dirQ; rw [show decide (kk s < k + 1) = decide (kk s < k) by apply decide_eq_decide.2; omega]
theorem dirQ_go {p : Nat → Int} {mx my : Int → Int → Int} {kk : Int → Int} {x y s k : Int} {q : Nat → Int} (h : k = kk s) (hc : canB p (mx x y) (my x y) k = true) : dirQ p mx my kk x y s q (k + 1) = dirQ p mx my kk x y s q k := by
  subst h; unfold dirQ; simp [hc]
theorem dirQ_put {p : Nat → Int} {mx my : Int → Int → Int} {kk : Int → Int} {x y s k : Int} {q : Nat → Int} (h : k = kk s) (hc : canB p (mx x y) (my x y) k = false) : dirQ p mx my kk x y s q (k + 1) = putP (dirQ p mx my kk x y s q k) (hdX x s) (hdY y s) (hdS s) true := by
  subst h; unfold dirQ; simp [hc, show kk s < kk s + 1 by omega]
theorem dirQ_4 {p : Nat → Int} {W H : Nat} {mx my : Int → Int → Int} {kk : Int → Int} {x y s : Int} {q : Nat → Int} (h : kk s < 4) (hi : isC (W : Int) (H : Int) (nextX x s) (nextY y s) = true) : dirQ p mx my kk x y s q 4 = sideQ p W H mx my kk x y s q := by
  unfold dirQ sideQ; rw [hi, decide_eq_true h]
theorem sideQ_out {p : Nat → Int} {W H : Nat} {mx my : Int → Int → Int} {kk : Int → Int} {x y s : Int} {q : Nat → Int} (hi : isC (W : Int) (H : Int) (nextX x s) (nextY y s) = false) : sideQ p W H mx my kk x y s q = q := by
  unfold sideQ; rw [hi]; rfl
theorem isC_in {W H : Nat} {x y : Int} (hW : W ≤ 10) (hH : H ≤ 10) (h : isC (W : Int) (H : Int) x y = true) : (0 ≤ x ∧ x < W) ∧ 0 ≤ y ∧ y < H := by
  unfold isC inB at h; simp at h; omega
def MvAt (w : World) (cf : FuncId) (caps : List Value) (W H : Nat) (mx my : Int → Int → Int) : Prop :=
  ∀ x y : Int, 0 ≤ x ∧ x < W → 0 ≤ y ∧ y < H → ∀ w', Below w.heap.size w w' → Calls Try.prog cf ([Value.agg #[.int .i8 x, .int .i8 y]] ++ caps).toArray w' fun e w'' => e = .returned (.agg #[.int .i8 (mx x y), .int .i8 (my x y)]) ∧ Below w'.heap.size w' w''
theorem slInts12 (w : World) : (Instr.buildSlice 143 2 #[(0, .int .i64 1), (1, .int .i64 2)]).run Try.prog w = .ok (.slice (some ⟨w.heap.size, 0, none⟩) 2 2) (w.alloc (.cells #[.int .i64 1, .int .i64 2] 2 (0, 0))) := slInt2 1 2 w
theorem cellN_in {W H k : Nat} (h : k < H * W) : (0 ≤ (cellN W k).x ∧ (cellN W k).x < W) ∧ 0 ≤ (cellN W k).y ∧ (cellN W k).y < H := by
  have hW : 0 < W := by
    rcases Nat.eq_zero_or_pos W with h0 | h0
    · subst h0; simp at h
    · exact h0
  have h1 := Nat.mod_lt k hW
  have h2 : k / W < H := (Nat.div_lt_iff_lt_mul hW).2 h
  exact ⟨⟨Int.natCast_nonneg _, Int.ofNat_lt.2 h1⟩, Int.natCast_nonneg _, Int.ofNat_lt.2 h2⟩
end Go.Proofs.Ytjflellnbafbaaa
