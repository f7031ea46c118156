import Derived.Test.YtpifngdmlmfnhaaQE05
import Derived.Test.YtpifngdmlmfnhaaQE08
import Derived.Test.YtpifngdmlmfnhaaQE10
import Derived.Test.YtpifngdmlmfnhaaQE11
import Derived.Test.YtpifngdmlmfnhaaQE13
import Derived.Test.YtpifngdmlmfnhaaQE14
import Derived.Test.YtpifngdmlmfnhaaQE16
import Derived.Test.YtpifngdmlmfnhaaQE17
/- Fences: hurdles of a pasture, their code; hurdles that are put or taken. No condition. -/
namespace Go.Proofs.Ytpifngdmlmfnhaa
set_option linter.unusedVariables false
set_option linter.unusedSimpArgs false
open Go.RowKit Mem Wk
attribute [local irreducible] Calls Wk.S Wk.C Wk.E Wk.X Wk.T Wk.anV Wk.orV Wk.andV Wk.shlV Wk.shrV Calm.wpLex
def sdOf (s : Bool) : Int := if s then 2 else 1
def isH (p : Nat → Int) (h : Hd) : Bool := isC (p 0) (p 1) h.x h.y && isC (p 0) (p 1) (nextX h.x (sdOf h.s)) (nextY h.y (sdOf h.s))
end Go.Proofs.Ytpifngdmlmfnhaa
/- All sides of a pasture that a function accepts; the hurdles that stand: both programs'. No condition. -/
namespace Go.Proofs.Ytpifngdmlmfnhaa
set_option linter.unusedVariables false
set_option linter.unusedSimpArgs false
open Go.RowKit Mem Wk

attribute [local irreducible] Calls Wk.S Wk.C Wk.E Wk.X Wk.T Wk.anV Wk.orV Wk.andV Wk.shlV Wk.shrV Calm.wpLex
/-! lists of hurdles -/
def flH (l : List Hd) : List Value := (l.map Hd.cells).flatten
theorem Wk.Ap.hd {n cap : Nat} {cur : Array Value} {l : List Hd} (h : Ap 3 n cap cur (flH l)) {i : Nat} {s : Hd} (hi : l[i]? = some s) : (0 + i * 3 + 3 ≤ cur.size ∧ cur.extract (0 + i * 3) (0 + i * 3 + 3) = #[.int .i8 s.x, .int .i8 s.y, .bool s.s]) ∧ 0 + i * 3 + 0 + 2 ≤ cur.size ∧ cur.extract (0 + i * 3 + 0) (0 + i * 3 + 0 + 2) = #[.int .i8 s.x, .int .i8 s.y] := by
  simp only [Nat.zero_add, Nat.add_zero]
  have hx : (l.map Hd.cells)[i]? = some s.cells := by simp [hi]
  have he := h.elem (lenHd l) hx
  have h0 : cur[i * 3 + 0]? = some (.int .i8 s.x) := he 0 (by omega)
  have h1 : cur[i * 3 + 1]? = some (.int .i8 s.y) := he 1 (by omega)
  have h2 : cur[i * 3 + 2]? = some (.bool s.s) := he 2 (by omega)
  obtain ⟨q0, e0⟩ := Array.getElem?_eq_some_iff.1 h0
  obtain ⟨q1, e1⟩ := Array.getElem?_eq_some_iff.1 h1
  obtain ⟨q2, e2⟩ := Array.getElem?_eq_some_iff.1 h2
  refine ⟨⟨by omega, ?_⟩, by omega, ?_⟩
  · apply Array.ext
    · simp; omega
    · intro j hj1 hj2
      simp only [List.size_toArray, List.length_cons, List.length_nil] at hj2
      rcases (by omega : j = 0 ∨ j = 1 ∨ j = 2) with rfl | rfl | rfl <;> simp_all [Array.getElem_extract]
  · apply Array.ext
    · simp; omega
    · intro j hj1 hj2
      simp only [List.size_toArray, List.length_cons, List.length_nil] at hj2
      rcases (by omega : j = 0 ∨ j = 1) with rfl | rfl <;> simp_all [Array.getElem_extract]
/-! sides, plainly -/
end Go.Proofs.Ytpifngdmlmfnhaa
/- All sides and the hurdles that stand: the specification's lists and the program's are the same. No condition. -/
namespace Go.Proofs.Ytpifngdmlmfnhaa
set_option linter.unusedVariables false
set_option linter.unusedSimpArgs false
open Go.RowKit Mem Wk
attribute [local irreducible] Calls Wk.S Wk.C Wk.E Wk.X Wk.T Wk.anV Wk.orV Wk.andV Wk.shlV Wk.shrV Calm.wpLex
theorem isH_cells {p : Nat → Int} {h : Hd} (hh : isH p h = true) : isC (p 0) (p 1) h.x h.y = true ∧ isC (p 0) (p 1) (nextX h.x (sdOf h.s)) (nextY h.y (sdOf h.s)) = true := by
  unfold isH at hh; simpa using hh
end Go.Proofs.Ytpifngdmlmfnhaa
/- A pasture whose cells come from those of another one. No condition. -/
namespace Go.Proofs.Ytpifngdmlmfnhaa
set_option linter.unusedVariables false
set_option linter.unusedSimpArgs false
open Go.RowKit Mem Wk
attribute [local irreducible] Calls Wk.S Wk.C Wk.E Wk.X Wk.T Wk.anV Wk.orV Wk.andV Wk.shlV Wk.shrV Calm.wpLex
/-- an empty pasture -/
def base (a b : Int) : Nat → Int := upd (upd (fun _ => 0) 0 a) 1 b
theorem putP_keep (q : Nat → Int) (x y : Int) (s on : Bool) {i : Nat} (h : i < 102) : putP q x y s on i = q i := by
  unfold putP; split <;> exact upd_ne _ _ (by omega)
end Go.Proofs.Ytpifngdmlmfnhaa
/- Goats: what makes one valid. No condition. -/
namespace Go.Proofs.Ytpifngdmlmfnhaa
set_option linter.unusedVariables false
set_option linter.unusedSimpArgs false
open Go.RowKit Mem
attribute [local irreducible] Calm.wpLex
/-- cells that lie from here on -/
def CellsAt (w : World) (b off : Nat) (c : List Value) : Prop := ∀ (j : Nat) (u : Value), c[j]? = some u → w.cell? ⟨b, off + j, none⟩ = some u
theorem CellsAt.below {w w' : World} {b off : Nat} {c : List Value} (h : CellsAt w b off c) (hb : Below w.heap.size w w') : CellsAt w' b off c := fun j u hu => by
  rw [hb.cell (p := ⟨b, off + j, none⟩) (World.block_lt_of_cell? w _ (h j u hu))]; exact h j u hu
theorem CellsAt.part {w : World} {b off : Nat} {c : List Value} (h : CellsAt w b off c) (k : Nat) {d : List Value} (hd : ∀ (j : Nat) (u : Value), d[j]? = some u → c[k + j]? = some u) : CellsAt w b (off + k) d := fun j u hu => by
  rw [Nat.add_assoc]; exact h _ _ (hd j u hu)
theorem Gt.at_ (g : Gt) : ∀ (j : Nat) (u : Value), (Sp.mk g.x g.y).cells[j]? = some u → g.cells[0 + j]? = some u := fun j u hu => by
  rcases j with _ | _ | j
  · exact hu
  · exact hu
  · cases hu
end Go.Proofs.Ytpifngdmlmfnhaa
/- The cell that a goat chooses: the program's. No condition. -/
namespace Go.Proofs.Ytpifngdmlmfnhaa
set_option linter.unusedVariables false
set_option linter.unusedSimpArgs false
open Go.RowKit Mem Wk
attribute [local irreducible] Calls Wk.C Wk.E Wk.X Wk.T Wk.Y Wk.anV Wk.orV Wk.andV Wk.shlV Wk.shrV Calm.wpLex CalmB.wpLex
theorem Wk.s_gdu {P : Program} {n : Nat} {O : List Nat} {w0 : World} {l : List (Nat × Value)} {L : List (Nat × TypeId × Array Value)} {Q : Exit → Act → World → Prop} {ops : Array Oper} {rest : List Oper} {d : Nat} {op : Op} {ty : TypeId} {ps : String} {af : Array Edge} {j : Nat} {b : Bool} {t : Nat} (hn : Nat.blt d n = true) (hj : (ops[j]?).bind (·.dst) = some t) (ht : lk l t = some undef) (h : Wk.S P ops Q n O w0 rest ((d, undef) :: l) L) : Wk.S P ops Q n O w0 (⟨some d, op, ty, ps, af, some (j, b)⟩ :: rest) l L := fun a w hF hL => by
  have h2 : Region.wanted ⟨some d, op, ty, ps, af, some (j, b)⟩ (yielded ops a.tmps) = false := by simp [Region.wanted, yu hF hj ht]
  unfold wpList
  rw [if_neg (by rw [h2]; simp)]
  exact h _ _ (hF.put hn undef) hL
attribute [local irreducible] Wk.S
end Go.Proofs.Ytpifngdmlmfnhaa
/- JoinYards: both functions. No condition. -/
namespace Go.Proofs.Ytpifngdmlmfnhaa
set_option linter.unusedVariables false
set_option linter.unusedSimpArgs false
open Go.RowKit Mem Wk
attribute [local irreducible] Calls Wk.S Wk.C Wk.E Wk.X Wk.T Wk.Y Wk.anV Wk.orV Wk.andV Wk.shlV Wk.shrV Calm.wpLex CalmB.wpLex putP
def othS (h : Hd) : Sp := ⟨nextX h.x (sdOf h.s), nextY h.y (sdOf h.s)⟩
theorem isH_facts {p : Nat → Int} {h : Hd} (hh : isH p h = true) : inR ⟨h.x, h.y⟩ ∧ inR (othS h) := ⟨isC_range (isH_cells hh).1, isC_range (isH_cells hh).2⟩
end Go.Proofs.Ytpifngdmlmfnhaa
/- What keeps a pasture valid. Plain, no condition. -/
namespace Go.Proofs.Ytpifngdmlmfnhaa
set_option linter.unusedVariables false
set_option linter.unusedSimpArgs false
open Go Go.RowKit Mem Wk

theorem bvw (z : BitVec 16) : IntKind.u16.wrap ((z.toNat : Nat) : Int) = (z.toNat : Int) := by
  have := z.isLt
  exact wrap_in (by simp only [Wk.lo, Wk.hi]; omega)
theorem bvo (z : BitVec 16) : BitVec.ofInt 16 ((z.toNat : Nat) : Int) = z := by
  rw [BitVec.ofInt_natCast]; simp
theorem sub_iff {v m : Int} : bits .andNot .u16 v m = 0 ↔ BitVec.ofInt 16 v &&& ~~~BitVec.ofInt 16 m = 0#16 := by
  show IntKind.u16.wrap (((BitVec.ofInt 16 v &&& ~~~BitVec.ofInt 16 m).toNat : Nat) : Int) = 0 ↔ _
  rw [bvw]
  constructor
  · intro h; apply BitVec.eq_of_toNat_eq; simpa using h
  · intro h; rw [h]; rfl
theorem put_sub {v s m : Int} (hv : bits .andNot .u16 v m = 0) (hs : bits .andNot .u16 s m = 0) : bits .andNot .u16 (orV .u16 (anV .u16 v s) s) m = 0 := by
  rw [sub_iff] at hv hs ⊢
  have e1 : BitVec.ofInt 16 (anV .u16 v s) = BitVec.ofInt 16 v &&& ~~~BitVec.ofInt 16 s := by
    show BitVec.ofInt 16 (IntKind.u16.wrap (((BitVec.ofInt 16 v &&& ~~~BitVec.ofInt 16 s).toNat : Nat) : Int)) = _
    rw [bvw, bvo]
  have e2 : BitVec.ofInt 16 (orV .u16 (anV .u16 v s) s) = BitVec.ofInt 16 (anV .u16 v s) ||| BitVec.ofInt 16 s := by
    show BitVec.ofInt 16 (IntKind.u16.wrap (((BitVec.ofInt 16 (anV .u16 v s) ||| BitVec.ofInt 16 s).toNat : Nat) : Int)) = _
    rw [bvw, bvo]
  rw [e2, e1]
  generalize BitVec.ofInt 16 v = V at *
  generalize BitVec.ofInt 16 s = S at *
  generalize BitVec.ofInt 16 m = M at *
  apply BitVec.eq_of_getLsbD_eq
  intro i hi
  have h1 := congrArg (fun z : BitVec 16 => z.getLsbD i) hv
  have h2 := congrArg (fun z : BitVec 16 => z.getLsbD i) hs
  simp only [BitVec.getLsbD_and, BitVec.getLsbD_not, BitVec.getLsbD_or, BitVec.getLsbD_zero, hi, decide_true, Bool.true_and] at h1 h2 ⊢
  revert h1 h2
  generalize V.getLsbD i = a
  generalize S.getLsbD i = b
  generalize M.getLsbD i = c
  cases a <;> cases b <;> cases c <;> simp
theorem and_0 (m : Int) : bits .andNot .u16 0 m = 0 := by
  rw [sub_iff]
  have e : BitVec.ofInt 16 0 = 0#16 := rfl
  rw [e]; simp
set_option maxRecDepth 100000 in
theorem eM_bit : ∀ a b y x : Fin 5, isC ((a.val : Int) + 1) ((b.val : Int) + 1) (x.val : Int) (y.val : Int) = true → isC ((a.val : Int) + 1) ((b.val : Int) + 1) ((x.val : Int) + 1) (y.val : Int) = true → bits .andNot .u16 (shlV .u16 1 (x.val : Int)) (eM ((a.val : Int) + 1) ((b.val : Int) + 1) (y.val : Int) 10) = 0 := by
  decide +kernel
set_option maxRecDepth 100000 in
theorem sM_bit : ∀ a b y x : Fin 5, isC ((a.val : Int) + 1) ((b.val : Int) + 1) (x.val : Int) (y.val : Int) = true → isC ((a.val : Int) + 1) ((b.val : Int) + 1) (x.val : Int) ((y.val : Int) + 1) = true → bits .andNot .u16 (shlV .u16 1 (x.val : Int)) (sM ((a.val : Int) + 1) ((b.val : Int) + 1) (y.val : Int) 10) = 0 := by
  decide +kernel
theorem fin5 {n : Int} (h1 : 0 ≤ n) (h2 : n < 5) : ∃ k : Fin 5, n = (k.val : Int) := ⟨⟨n.toNat, by omega⟩, by simp; omega⟩
def small (p : Nat → Int) : Prop := (1 ≤ p 0 ∧ p 0 ≤ 5) ∧ 1 ≤ p 1 ∧ p 1 ≤ 5
theorem valid_parts {p : Nat → Int} : validP p = true ↔ inB (p 0) 1 10 = true ∧ inB (p 1) 1 10 = true ∧ ∀ y, y < 10 → (∀ x, x < 10 → gOk p y x = true) ∧ eOk p y = true ∧ sOk p y = true := by
  unfold validP rowOk
  simp only [Bool.and_eq_true, all_range]
theorem valid_put {p : Nat → Int} (hv : validP p = true) (hs : small p) {x y : Int} {s : Bool} (hh : isH p ⟨x, y, s⟩ = true) : validP (putP p x y s true) = true := by
  obtain ⟨hr, h1, h2⟩ := isH_facts hh
  have hk := fun i (hi : i < 102) => putP_keep p x y s true hi
  rw [valid_parts] at hv ⊢
  rw [hk 0 (by omega), hk 1 (by omega)]
  obtain ⟨hW, hH, hrow⟩ := hv
  refine ⟨hW, hH, fun yy hyy => ?_⟩
  obtain ⟨hg, he, hso⟩ := hrow yy hyy
  refine ⟨fun xx hxx => ?_, ?_, ?_⟩
  · have := hg xx hxx
    unfold gOk at this ⊢
    rw [hk 0 (by omega), hk 1 (by omega), hk _ (by omega)]
    exact this
  · unfold eOk at he ⊢
    rw [hk 0 (by omega), hk 1 (by omega)]
    cases s
    case true =>
      unfold putP
      rw [if_pos rfl, upd_ne _ _ (by omega)]
      exact he
    case false =>
      have hc := isH_cells hh
      unfold putP
      rw [if_neg (by simp)]
      by_cases e : 102 + yy = 102 + y.toNat
      · rw [e, upd_at]
        obtain ⟨a, ea⟩ := fin5 (n := p 0 - 1) (by have := hs.1; omega) (by have := hs.1; omega)
        obtain ⟨b, eb⟩ := fin5 (n := p 1 - 1) (by have := hs.2; omega) (by have := hs.2; omega)
        have hcx := hc.1
        unfold isC inB at hcx
        simp at hcx
        have hs1 := hs.1
        have hs2 := hs.2
        obtain ⟨xf, ex⟩ := fin5 (n := x) (by omega) (by omega)
        obtain ⟨yf, ey⟩ := fin5 (n := y) (by omega) (by omega)
        have e0 : p 0 = (a.val : Int) + 1 := by omega
        have e1 : p 1 = (b.val : Int) + 1 := by omega
        have hyy : (yy : Int) = y := by omega
        have hb := eM_bit a b yf xf (by rw [← e0, ← e1, ← ex, ← ey]; exact hc.1) (by
          have := hc.2
          simp [sdOf, nextX, nextY] at this
          rw [← e0, ← e1, ← ex, ← ey]; exact this)
        rw [← e0, ← e1, ← ex, ← ey] at hb
        apply decide_eq_true
        have he2 := of_decide_eq_true he
        rw [e] at he2
        unfold rowV
        rw [if_pos rfl]
        rw [hyy] at he2 ⊢
        exact put_sub he2 hb
      · rw [upd_ne _ _ e]; exact he
  · unfold sOk at hso ⊢
    rw [hk 0 (by omega), hk 1 (by omega)]
    cases s
    case false =>
      unfold putP
      rw [if_neg (by simp), upd_ne _ _ (by have := hr.2.2.2; have := hr.2.2.1; simp only at *; omega)]
      exact hso
    case true =>
      have hc := isH_cells hh
      unfold putP
      rw [if_pos rfl]
      by_cases e : 112 + yy = 112 + y.toNat
      · rw [e, upd_at]
        obtain ⟨a, ea⟩ := fin5 (n := p 0 - 1) (by have := hs.1; omega) (by have := hs.1; omega)
        obtain ⟨b, eb⟩ := fin5 (n := p 1 - 1) (by have := hs.2; omega) (by have := hs.2; omega)
        have hcx := hc.1
        unfold isC inB at hcx
        simp at hcx
        have hs1 := hs.1
        have hs2 := hs.2
        obtain ⟨xf, ex⟩ := fin5 (n := x) (by omega) (by omega)
        obtain ⟨yf, ey⟩ := fin5 (n := y) (by omega) (by omega)
        have e0 : p 0 = (a.val : Int) + 1 := by omega
        have e1 : p 1 = (b.val : Int) + 1 := by omega
        have hyy : (yy : Int) = y := by omega
        have hb := sM_bit a b yf xf (by rw [← e0, ← e1, ← ex, ← ey]; exact hc.1) (by
          have := hc.2
          simp [sdOf, nextX, nextY] at this
          rw [← e0, ← e1, ← ex, ← ey]; exact this)
        rw [← e0, ← e1, ← ex, ← ey] at hb
        apply decide_eq_true
        have he2 := of_decide_eq_true hso
        rw [e] at he2
        unfold rowV
        rw [if_pos rfl]
        rw [hyy] at he2 ⊢
        exact put_sub he2 hb
      · rw [upd_ne _ _ e]; exact hso
theorem valid_grass {p : Nat → Int} (hv : validP p = true) {x y : Nat} (hx : x < 10) (hy : y < 10) (hc : isC (p 0) (p 1) (x : Int) (y : Int) = true) {v : Int} (h0 : 0 ≤ v) (h1 : v ≤ 1000) : validP (upd p (2 + y * 10 + x) v) = true := by
  rw [valid_parts] at hv ⊢
  rw [upd_ne _ _ (by omega : 0 ≠ 2 + y * 10 + x), upd_ne _ _ (by omega : 1 ≠ 2 + y * 10 + x)]
  obtain ⟨hW, hH, hrow⟩ := hv
  refine ⟨hW, hH, fun yy hyy => ?_⟩
  obtain ⟨hg, he, hso⟩ := hrow yy hyy
  refine ⟨fun xx hxx => ?_, ?_, ?_⟩
  · have := hg xx hxx
    unfold gOk at this ⊢
    rw [upd_ne _ _ (by omega : 0 ≠ 2 + y * 10 + x), upd_ne _ _ (by omega : 1 ≠ 2 + y * 10 + x)]
    by_cases e : 2 + yy * 10 + xx = 2 + y * 10 + x
    · have e1 : yy = y := by omega
      have e2 : xx = x := by omega
      subst e1; subst e2
      rw [upd_at, hc]
      unfold inB; simp; omega
    · rw [upd_ne _ _ e]; exact this
  · unfold eOk at he ⊢
    rw [upd_ne _ _ (by omega : 0 ≠ 2 + y * 10 + x), upd_ne _ _ (by omega : 1 ≠ 2 + y * 10 + x), upd_ne _ _ (by omega : 102 + yy ≠ 2 + y * 10 + x)]
    exact he
  · unfold sOk at hso ⊢
    rw [upd_ne _ _ (by omega : 0 ≠ 2 + y * 10 + x), upd_ne _ _ (by omega : 1 ≠ 2 + y * 10 + x), upd_ne _ _ (by omega : 112 + yy ≠ 2 + y * 10 + x)]
    exact hso
theorem valid_0 {p : Nat → Int} (hs : small p) (h : ∀ i, 2 ≤ i → p i = 0) : validP p = true := by
  rw [valid_parts]
  obtain ⟨h1, h2⟩ := hs
  refine ⟨by unfold inB; simp; omega, by unfold inB; simp; omega, fun yy hyy => ⟨fun xx hxx => ?_, ?_, ?_⟩⟩
  · unfold gOk
    rw [h _ (by omega)]
    unfold inB
    split <;> simp
  · unfold eOk
    rw [h _ (by omega)]
    exact decide_eq_true (and_0 _)
  · unfold sOk
    rw [h _ (by omega)]
    exact decide_eq_true (and_0 _)
end Go.Proofs.Ytpifngdmlmfnhaa
