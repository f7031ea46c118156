import Derived.IntWalk
import Derived.KernelRfl
import Derived.StillTail
import Derived.Test.YtnafnhpajkhgkaaQY01
/- A walk's own words: a frame as a list of what its slots hold, memory as a list of blocks; what each operation yields; the laws of code over both. Plain theorems; no condition. -/
namespace Go.Proofs.Ytnafnhpajkhgkaa.Wk
set_option linter.unusedVariables false
set_option linter.unusedSimpArgs false
set_option linter.unusedSectionVars false
open Go Go.RowKit Mem

/-! ### Frames -/
def lk : List (Nat × Value) → Nat → Option Value
  | [], _ => none
  | (k, v) :: l, i => match Nat.beq k i with
    | true => some v
    | false => lk l i
def ev (l : List (Nat × Value)) : Operand → Option Value
  | .tmp t => lk l t
  | .const v => some v
  | .global g => some (.pointer (some ⟨g, 0, none⟩))
  | .func f => some (.func (.func f) #[] #[])
def evs (l : List (Nat × Value)) : List Operand → Option (List Value)
  | [] => some []
  | x :: xs => match ev l x with
    | some v => match evs l xs with
      | some vs => some (v :: vs)
      | none => none
    | none => none
/-- A table: the first row of this number. -/
def lkT {α : Type} : List (Nat × α) → Nat → Option α
  | [], _ => none
  | (k, v) :: l, i => match Nat.beq k i with
    | true => some v
    | false => lkT l i
def lkF {α : Type} : List (Nat × Nat × α) → Nat → Nat → Option α
  | [], _, _ => none
  | (k, m, v) :: l, i, j => match Nat.beq k i && Nat.beq m j with
    | true => some v
    | false => lkF l i j
theorem lkT_mem {α : Type} {l : List (Nat × α)} {i : Nat} {v : α} (h : lkT l i = some v) : (i, v) ∈ l := by
  induction l with
  | nil => cases h
  | cons x l ih =>
    obtain ⟨k, u⟩ := x
    simp only [lkT] at h
    split at h
    · rename_i hk; injection h with h; subst h; have := Nat.eq_of_beq_eq_true hk; subst this; exact List.mem_cons_self
    · exact List.mem_cons_of_mem _ (ih h)
theorem lkF_mem {α : Type} {l : List (Nat × Nat × α)} {i j : Nat} {v : α} (h : lkF l i j = some v) : (i, j, v) ∈ l := by
  induction l with
  | nil => cases h
  | cons x l ih =>
    obtain ⟨k, m, u⟩ := x
    simp only [lkF] at h
    split at h
    · rename_i hk; injection h with h; subst h
      rw [Bool.and_eq_true] at hk
      have h1 := Nat.eq_of_beq_eq_true hk.1
      have h2 := Nat.eq_of_beq_eq_true hk.2
      subst h1; subst h2; exact List.mem_cons_self
    · exact List.mem_cons_of_mem _ (ih h)

structure Fr (n : Nat) (l : List (Nat × Value)) (a : Act) : Prop where
  size : a.tmps.size = n
  defers : a.defers = []
  get : ∀ i v, lk l i = some v → a.tmps[i]? = some v
section
variable {n : Nat} {l l' : List (Nat × Value)} {a : Act}
theorem Fr.eval (h : Fr n l a) {x : Operand} {v : Value} (hx : ev l x = some v) : a.eval x = v := by
  cases x with
  | tmp t => simp only [ev] at hx; simp [Act.eval, Array.getD_eq_getD_getElem?, h.get t v hx]
  | const u => simp only [ev] at hx; injection hx
  | global g => simp only [ev] at hx; injection hx
  | func f => simp only [ev] at hx; injection hx
theorem Fr.evals (h : Fr n l a) : ∀ {xs : List Operand} {vs : List Value}, evs l xs = some vs → xs.map a.eval = vs
  | [], vs, hx => by cases hx; rfl
  | x :: xs, vs, hx => by
    simp only [evs] at hx
    split at hx
    · rename_i v hv
      split at hx
      · rename_i us hus
        injection hx with hx; subst hx
        rw [List.map_cons, h.eval hv, h.evals hus]
      · cases hx
    · cases hx
theorem Fr.put (h : Fr n l a) {d : Nat} (hd : Nat.blt d n = true) (v : Value) : Fr n ((d, v) :: l) (a.put (some d) v) := by
  have hdn : d < n := by simpa [Nat.blt_eq] using hd
  refine ⟨by simp [Act.put, h.size], h.defers, fun i u hu => ?_⟩
  simp only [lk] at hu
  split at hu
  · rename_i hk; injection hu with hu; subst hu
    have := Nat.eq_of_beq_eq_true hk; subst this
    simp [Act.put, h.size, hdn]
  · rename_i hk
    have hne : d ≠ i := fun e => by subst e; simp at hk
    simp only [Act.put]
    rw [Array.getElem?_setIfInBounds_ne hne]
    exact h.get i u hu
/-- What a list says is said by another one. -/
def Sub (l l' : List (Nat × Value)) : Prop := ∀ i v, lk l' i = some v → lk l i = some v
theorem Fr.sub (h : Fr n l a) (hs : Sub l l') : Fr n l' a := ⟨h.size, h.defers, fun i v hv => h.get i v (hs i v hv)⟩
theorem sub_nil : Sub l [] := fun i v h => by cases h
theorem sub_cons {k : Nat} {v : Value} (h : lk l k = some v) (hs : Sub l l') : Sub l ((k, v) :: l') := fun i u hu => by
  simp only [lk] at hu
  split at hu
  · rename_i hk; injection hu with hu; subst hu; have := Nat.eq_of_beq_eq_true hk; subst this; exact h
  · exact hs i u hu
theorem sub_cons' {k : Nat} {v v' : Value} (h : lk l k = some v') (he : v' = v) (hs : Sub l l') : Sub l ((k, v) :: l') := sub_cons (he ▸ h) hs
end

/-! ### Tables of types -/
def fieldOff (P : Program) (s f : Nat) : Option Nat := match P.underlying s with
  | some (.struct fs) => match fs[f]? with
    | some fd => match P.info? fd.type with
      | some i => if i.size = 0 then none else some fd.offset
      | none => none
    | none => none
  | _ => none
def chkF (P : Program) (e : Nat × Nat × Nat) : Bool := fieldOff P e.1 e.2.1 == some e.2.2
def chkA (P : Program) (e : Nat × Nat × Nat) : Bool := match P.underlying e.1 with
  | some (.array n el) => n == e.2.1 && (P.info? el).map (·.size) == some e.2.2
  | _ => false
def chkL (P : Program) (e : Nat × Nat × Nat) : Bool := match P.underlying e.1 with
  | some (.slice el) => el == e.2.1 && (P.info? el).map (·.size) == some e.2.2
  | _ => false
def chkS (P : Program) (e : Nat × Bool × Nat) : Bool := (if e.2.1 then aggT P e.1 else oneT P e.1) && (P.info? e.1).map (·.size) == some e.2.2
def chkK (P : Program) (e : Nat × IntKind) : Bool := match P.underlying e.1 with
  | some (.int k) => k == e.2
  | _ => false
/-- fields, arrays, slices, sizes, kinds -/
structure Tb (P : Program) where
  f : List (Nat × Nat × Nat)
  a : List (Nat × Nat × Nat)
  l : List (Nat × Nat × Nat)
  s : List (Nat × Bool × Nat)
  k : List (Nat × IntKind)
  hf : f.all (chkF P) = true
  ha : a.all (chkA P) = true
  hl : l.all (chkL P) = true
  hs : s.all (chkS P) = true
  hk : k.all (chkK P) = true
variable {P : Program}
theorem Tb.field (tb : Tb P) {s f k : Nat} (h : lkF tb.f s f = some k) : fieldOff P s f = some k := by
  have := List.all_eq_true.1 tb.hf _ (lkF_mem h)
  simpa [chkF] using this
theorem Tb.arr (tb : Tb P) {t n sz : Nat} (h : lkT tb.a t = some (n, sz)) : ∃ el, P.underlying t = some (.array n el) ∧ (P.info? el).map (·.size) = some sz := by
  have := List.all_eq_true.1 tb.ha _ (lkT_mem h)
  unfold chkA at this
  split at this
  · rename_i m el hu
    simp only [Bool.and_eq_true, beq_iff_eq] at this
    exact ⟨el, by rw [hu, this.1], this.2⟩
  · cases this
theorem Tb.slice (tb : Tb P) {t el sz : Nat} (h : lkT tb.l t = some (el, sz)) : P.underlying t = some (.slice el) ∧ (P.info? el).map (·.size) = some sz := by
  have := List.all_eq_true.1 tb.hl _ (lkT_mem h)
  unfold chkL at this
  split at this
  · rename_i el' hu
    simp only [Bool.and_eq_true, beq_iff_eq] at this
    obtain ⟨h1, h2⟩ := this
    have h1' : el' = el := h1
    subst h1'
    exact ⟨hu, h2⟩
  · cases this
theorem Tb.one (tb : Tb P) {t sz : Nat} (h : lkT tb.s t = some (false, sz)) : oneT P t = true ∧ (P.info? t).map (·.size) = some sz := by
  have := List.all_eq_true.1 tb.hs _ (lkT_mem h)
  simpa [chkS] using this
theorem Tb.agg (tb : Tb P) {t sz : Nat} (h : lkT tb.s t = some (true, sz)) : aggT P t = true ∧ (P.info? t).map (·.size) = some sz := by
  have := List.all_eq_true.1 tb.hs _ (lkT_mem h)
  simpa [chkS] using this
theorem Tb.size (tb : Tb P) {t sz : Nat} {b : Bool} (h : lkT tb.s t = some (b, sz)) : (P.info? t).map (·.size) = some sz := by
  cases b
  · exact (tb.one h).2
  · exact (tb.agg h).2
theorem Tb.kind (tb : Tb P) {t : Nat} {k : IntKind} (h : lkT tb.k t = some k) : P.underlying t = some (.int k) := by
  have := List.all_eq_true.1 tb.hk _ (lkT_mem h)
  unfold chkK at this
  split at this
  · rename_i k' hu
    have h1 : k' = k := by simpa using this
    subst h1; exact hu
  · cases this
theorem run_size {t sz : Nat} (h : (P.info? t).map (·.size) = some sz) (w : World) : (sizeOf t).run P w = .ok sz w := by
  cases hq : P.info? t with
  | none => simp [hq] at h
  | some i => have hs : i.size = sz := by simpa [hq] using h
              simp [sizeOf, typeInfo, hq, hs]

/-! ### What an operation yields -/
variable {n : Nat} {O : List Nat} {w0 : World} {l : List (Nat × Value)} {L : List (Nat × TypeId × Array Value)} {o : Oper} {v u : Value} {x y z : Operand} {d : Nat}
/-- The blocks that are known: the walk's own, and old ones. -/
abbrev Kn (O : List Nat) (w0 w : World) (L : List (Nat × TypeId × Array Value)) : Prop := Own w0.heap.size O w0 w L
def Rn (P : Program) (n : Nat) (O : List Nat) (w0 : World) (l : List (Nat × Value)) (L : List (Nat × TypeId × Array Value)) (o : Oper) (v : Value) : Prop :=
  ∀ a w, Fr n l a → Kn O w0 w L → (execOp a.eval o).run P w = .ok (.value v) w
theorem r_move (ho : o.op = .move x) (hx : ev l x = some v) : Rn P n O w0 l L o v := fun a w hF hL => by simp [execOp, ho, hF.eval hx]
theorem r_assign (ho : o.op = .assign x) (hx : ev l x = some v) : Rn P n O w0 l L o v := fun a w hF hL => by simp [execOp, ho, hF.eval hx]
theorem r_nil (ho : o.op = .nilCheck x) {ad : Addr} (hx : ev l x = some (.pointer (some ad))) : Rn P n O w0 l L o (.pointer (some ad)) := fun a w hF hL => by simp [execOp, ho, hF.eval hx]
theorem run_field {s f k : Nat} (hk : fieldOff P s f = some k) (g off : Nat) (w : World) : (Instr.fieldAt s (.pointer (some ⟨g, off, none⟩)) f).run P w = .ok (.pointer (some ⟨g, off + k, none⟩)) w := by
  unfold fieldOff at hk
  split at hk
  · rename_i fs hu
    split at hk
    · rename_i fd hfd
      split at hk
      · rename_i i hi
        split at hk
        · cases hk
        · rename_i hsz
          injection hk with hk; subst hk
          simp [Instr.fieldAt, run_underlying hu, hfd, Instr.sureAddr, fieldPlace, sizeOf, typeInfo, hi, hsz, add_lit0]
      · cases hk
    · cases hk
  · cases hk
theorem r_field (tb : Tb P) {s f : Nat} (ho : o.op = .fieldAddr s x f) {g off k : Nat} (hx : ev l x = some (.pointer (some ⟨g, off, none⟩))) (hk : lkF tb.f s f = some k) : Rn P n O w0 l L o (.pointer (some ⟨g, off + k, none⟩)) := fun a w hF hL => by
  simp [execOp, ho, hF.eval hx, run_field (tb.field hk)]
theorem run_ixA {t len el sz : Nat} (ht : P.underlying t = some (.array len el)) (hs : (P.info? el).map (·.size) = some sz) {kd : IntKind} {i : Int} (h0 : 0 ≤ i) (h1 : i < len) (g off : Nat) (w : World) :
    (Instr.indexAt t (.pointer (some ⟨g, off, none⟩)) (.int kd i)).run P w = .ok (.pointer (some ⟨g, off + i.toNat * sz, none⟩)) w := by
  simp [Instr.indexAt, asIntOf, run_underlying ht, Instr.sureAddr, h0, h1, run_size hs, add_lit0]
theorem r_ixA (tb : Tb P) {t len sz : Nat} (ho : o.op = .indexAddr t x y) {g off : Nat} {kd : IntKind} {i : Int} (hx : ev l x = some (.pointer (some ⟨g, off, none⟩))) (hy : ev l y = some (.int kd i)) (ht : lkT tb.a t = some (len, sz)) (h0 : 0 ≤ i) (h1 : i < len) : Rn P n O w0 l L o (.pointer (some ⟨g, off + i.toNat * sz, none⟩)) := fun a w hF hL => by
  obtain ⟨el, hu, hs⟩ := tb.arr ht
  simp [execOp, ho, hF.eval hx, hF.eval hy, run_ixA hu hs h0 h1]
theorem r_ixN (tb : Tb P) {t len sz : Nat} (ho : o.op = .indexAddr t x y) {g off : Nat} {kd : IntKind} {i : Nat} (hx : ev l x = some (.pointer (some ⟨g, off, none⟩))) (hy : ev l y = some (.int kd (i : Int))) (ht : lkT tb.a t = some (len, sz)) (h1 : i < len) : Rn P n O w0 l L o (.pointer (some ⟨g, off + i * sz, none⟩)) :=
  r_ixA tb ho hx hy ht (by omega) (by omega)
/-- The place of a slice's cell k. -/
def sadr : Option Addr → Nat → Addr
  | some a, k => ⟨a.block, a.off + k, none⟩
  | none, k => ⟨0, k, none⟩
/-- What lies behind a slice's address: xs are the elements' cells. -/
def SlA (O : List Nat) (w : World) (sz : Nat) (A : Option Addr) (xs : List (List Value)) : Prop :=
  ∀ (i : Nat) (c : List Value), xs[i]? = some c → c.length = sz ∧ ∃ b off, A = some ⟨b, off, none⟩ ∧ b ∉ O ∧ ∀ (j : Nat) (u : Value), c[j]? = some u → w.cell? ⟨b, off + i * sz + j, none⟩ = some u
theorem run_ixS {t el sz : Nat} (ht : P.underlying t = some (.slice el)) (hs : (P.info? el).map (·.size) = some sz) {kd : IntKind} {i : Int} {b off len cap : Nat} (h0 : 0 ≤ i) (h1 : i < len) (w : World) :
    (Instr.indexAt t (.slice (some ⟨b, off, none⟩) len cap) (.int kd i)).run P w = .ok (.pointer (some ⟨b, off + i.toNat * sz, none⟩)) w := by
  simp [Instr.indexAt, asIntOf, run_underlying ht, h0, h1, run_size hs, add_lit0]
theorem r_ixS (tb : Tb P) {t el sz : Nat} {A : Option Addr} {xs : List (List Value)} {len cap : Nat} (ho : o.op = .indexAddr t x y) {kd : IntKind} {i : Nat} (hS : SlA O w0 sz A xs) (hx : ev l x = some (.slice A len cap)) (hy : ev l y = some (.int kd (i : Int))) (ht : lkT tb.l t = some (el, sz)) (hn : len = xs.length) (h1 : i < xs.length) : Rn P n O w0 l L o (.pointer (some (sadr A (i * sz)))) := fun a w hF hL => by
  obtain ⟨hu, hs⟩ := tb.slice ht
  obtain ⟨_, b, off, hA, _⟩ := hS i _ (List.getElem?_eq_getElem h1)
  subst hA; subst hn
  have := run_ixS (P := P) (cap := cap) hu hs (kd := kd) (i := (i : Int)) (b := b) (off := off) (len := xs.length) (by omega) (by omega) w
  simp [execOp, ho, hF.eval hx, hF.eval hy, this, sadr]
theorem r_fieldS (tb : Tb P) {s f : Nat} (ho : o.op = .fieldAddr s x f) {A : Option Addr} {e k : Nat} (hx : ev l x = some (.pointer (some (sadr A e)))) (hk : lkF tb.f s f = some k) : Rn P n O w0 l L o (.pointer (some (sadr A (e + k)))) := fun a w hF hL => by
  cases A with
  | none => simp [execOp, ho, hF.eval hx, sadr, run_field (tb.field hk)]
  | some ad => simp [execOp, ho, hF.eval hx, sadr, run_field (tb.field hk), Nat.add_assoc]
/-- An index into a block of the walk's own, by a slice. -/
theorem r_ixO (tb : Tb P) {t el sz : Nat} {g off len cap : Nat} (ho : o.op = .indexAddr t x y) {kd : IntKind} {i : Nat} (hx : ev l x = some (.slice (some ⟨g, off, none⟩) len cap)) (hy : ev l y = some (.int kd (i : Int))) (ht : lkT tb.l t = some (el, sz)) (h1 : i < len) : Rn P n O w0 l L o (.pointer (some ⟨g, off + i * sz, none⟩)) := fun a w hF hL => by
  obtain ⟨hu, hs⟩ := tb.slice ht
  have := run_ixS (P := P) (cap := cap) hu hs (kd := kd) (i := (i : Int)) (b := g) (off := off) (len := len) (by omega) (by omega) w
  simp [execOp, ho, hF.eval hx, hF.eval hy, this]

/-! loads -/
theorem r_ld1 (tb : Tb P) {ty g off : Nat} {T : TypeId} {cs : Array Value} {sz : Nat} (ho : o.op = .load ty x) (hx : ev l x = some (.pointer (some ⟨g, off, none⟩))) (hm : (g, T, cs) ∈ L) (ht : lkT tb.s ty = some (false, sz)) (hv : cs[off]? = some v) : Rn P n O w0 l L o v := fun a w hF hL =>
  run_load1 ho (tb.one ht).1 (hF.eval hx) (by rw [cell_of_row w g off cs T (0, 0) (hL.has _ hm)]; exact hv)
theorem r_ldN (tb : Tb P) {ty g off : Nat} {T : TypeId} {cs vs : Array Value} {sz : Nat} (ho : o.op = .load ty x) (hx : ev l x = some (.pointer (some ⟨g, off, none⟩))) (hm : (g, T, cs) ∈ L) (ht : lkT tb.s ty = some (true, sz)) (hfit : off + sz ≤ cs.size) (hv : cs.extract off (off + sz) = vs) : Rn P n O w0 l L o (.agg vs) := fun a w hF hL => by
  rw [run_loadN ho (tb.agg ht).1 (hF.eval hx) (hL.has _ hm) (tb.agg ht).2 hfit, hv]
/-- Old blocks that are not tracked. -/
theorem Kn.old {w : World} (h : Kn O w0 w L) {g : Nat} {ob : Obj} (hg : w0.heap[g]? = some ob) (hO : g ∉ O) : w.heap[g]? = some ob := by
  have hlt : g < w0.heap.size := (Array.getElem?_eq_some_iff.1 hg).1
  rw [h.keep g hlt fun x hx e => by
    rcases h.low x hx with h1 | h1
    · omega
    · exact hO (e ▸ h1)]
  exact hg
theorem Kn.oldc {w : World} (h : Kn O w0 w L) {ad : Addr} {v : Value} (hc : w0.cell? ad = some v) (hO : ad.block ∉ O) : w.cell? ad = some v := by
  rw [Own.old h (a := ad) (World.block_lt_of_cell? w0 _ hc) hO]; exact hc
/-- An element of a slice that stood before: whole; one of its cells. -/
theorem r_ldS (tb : Tb P) {ty sz i : Nat} {A : Option Addr} {xs : List (List Value)} {c : List Value} (ho : o.op = .load ty x) (hS : SlA O w0 sz A xs) (hx : ev l x = some (.pointer (some (sadr A (i * sz))))) (hc : xs[i]? = some c) (ht : lkT tb.s ty = some (true, sz)) : Rn P n O w0 l L o (.agg c.toArray) := fun a w hF hL => by
  obtain ⟨hl, b, off, hA, hb, hcell⟩ := hS i c hc
  subst hA
  refine run_loadA ho (tb.agg ht).1 (b := b) (off := off + i * sz) (by simpa [sadr] using hF.eval hx) (fun j u hu => ?_) (tb.agg ht).2 hl
  exact Kn.oldc hL (hcell j u hu) hb
/-! numbers -/
theorem r_conv (tb : Tb P) {s t : Nat} {k k' : IntKind} {m m' : Int} (ho : o.op = .convert s t x) (hx : ev l x = some (.int k' m)) (hs : lkT tb.k s = some k') (ht : lkT tb.k t = some k) (hw : k.wrap m = m') : Rn P n O w0 l L o (.int k m') := fun a w hF hL => by
  subst hw
  simp [execOp, ho, hF.eval hx, convert, run_underlying (tb.kind hs), run_underlying (tb.kind ht), Conv.intToInt]
section
variable {t t' : Nat} {k : IntKind} {m m' r : Int}
theorem r_add (ho : o.op = .binOp .add t x y t') (hx : ev l x = some (.int k m)) (hy : ev l y = some (.int k m')) (hw : k.wrap (m + m') = r) : Rn P n O w0 l L o (.int k r) := fun a w hF hL => by
  subst hw; simp [execOp, ho, hF.eval hx, hF.eval hy, eqGuard, binOp, Op.intArith]
theorem r_sub (ho : o.op = .binOp .sub t x y t') (hx : ev l x = some (.int k m)) (hy : ev l y = some (.int k m')) (hw : k.wrap (m - m') = r) : Rn P n O w0 l L o (.int k r) := fun a w hF hL => by
  subst hw; simp [execOp, ho, hF.eval hx, hF.eval hy, eqGuard, binOp, Op.intArith]
theorem r_mul (ho : o.op = .binOp .mul t x y t') (hx : ev l x = some (.int k m)) (hy : ev l y = some (.int k m')) (hw : k.wrap (m * m') = r) : Rn P n O w0 l L o (.int k r) := fun a w hF hL => by
  subst hw; simp [execOp, ho, hF.eval hx, hF.eval hy, eqGuard, binOp, Op.intArith]
theorem r_lss (ho : o.op = .binOp .lss t x y t') (hx : ev l x = some (.int k m)) (hy : ev l y = some (.int k m')) : Rn P n O w0 l L o (.bool (decide (m < m'))) := fun a w hF hL => by
  simp [execOp, ho, hF.eval hx, hF.eval hy, eqGuard, binOp, Op.intCmp]
theorem r_gtr (ho : o.op = .binOp .gtr t x y t') (hx : ev l x = some (.int k m)) (hy : ev l y = some (.int k m')) : Rn P n O w0 l L o (.bool (decide (m' < m))) := fun a w hF hL => by
  simp [execOp, ho, hF.eval hx, hF.eval hy, eqGuard, binOp, Op.intCmp]
theorem r_geq (ho : o.op = .binOp .geq t x y t') (hx : ev l x = some (.int k m)) (hy : ev l y = some (.int k m')) : Rn P n O w0 l L o (.bool (decide (m' ≤ m))) := fun a w hF hL => by
  simp [execOp, ho, hF.eval hx, hF.eval hy, eqGuard, binOp, Op.intCmp]
theorem r_eql (ho : o.op = .binOp .eql t x y t') (hx : ev l x = some (.int k m)) (hy : ev l y = some (.int k m')) : Rn P n O w0 l L o (.bool (decide (m = m'))) := fun a w hF hL => by
  simp [execOp, ho, hF.eval hx, hF.eval hy, eqGuard, binOp, Op.intCmp]; rfl
theorem r_neq (ho : o.op = .binOp .neq t x y t') (hx : ev l x = some (.int k m)) (hy : ev l y = some (.int k m')) : Rn P n O w0 l L o (.bool (!decide (m = m'))) := fun a w hF hL => by
  simp [execOp, ho, hF.eval hx, hF.eval hy, eqGuard, binOp, Op.intCmp]; rfl
end
theorem r_not {t : Nat} {b : Bool} (ho : o.op = .unOp .not t x) (hx : ev l x = some (.bool b)) : Rn P n O w0 l L o (.bool (!b)) := fun a w hF hL => by
  simp [execOp, ho, hF.eval hx, Op.unary]
theorem r_pick1 {b : Bool} (ho : o.op = .pick x y z) (hx : ev l x = some (.bool b)) (hb : b = true) (hy : ev l y = some v) : Rn P n O w0 l L o v := fun a w hF hL => by
  subst hb; simp [execOp, ho, hF.eval hx, hF.eval hy, asBool]
theorem r_pick0 {b : Bool} (ho : o.op = .pick x y z) (hx : ev l x = some (.bool b)) (hb : b = false) (hz : ev l z = some v) : Rn P n O w0 l L o v := fun a w hF hL => by
  subst hb; simp [execOp, ho, hF.eval hx, hF.eval hz, asBool]
theorem r_extract {vs : Array Value} {i : Nat} (ho : o.op = .extract x i) (hx : ev l x = some (.tuple vs)) (hv : vs[i]? = some v) : Rn P n O w0 l L o v := fun a w hF hL => by
  simp [execOp, ho, hF.eval hx, Instr.extract, hv]
theorem r_len (tb : Tb P) {t : Nat} {A : Option Addr} {m cap : Nat} {e : Nat × Nat} (ho : o.op = .call { callee := .builtin .len, args := #[x], argTypes := #[t] }) (hx : ev l x = some (.slice A m cap)) (ht : lkT tb.l t = some e) : Rn P n O w0 l L o (.int .i64 (m : Int)) := fun a w hF hL => by
  have := run_underlying (tb.slice ht).1 w
  simp [execOp, ho, resolve, invoke, builtin, hF.eval hx, Builtin.len_, this, goInt]
theorem r_func {fn : Fn} {first captured : Array Operand} {fs cs : List Value} (ho : o.op = .makeFunc fn first captured) (hf : evs l first.toList = some fs) (hc : evs l captured.toList = some cs) : Rn P n O w0 l L o (.func fn fs.toArray cs.toArray) := fun a w hF hL => by
  have e1 : first.map a.eval = fs.toArray := by rw [← hF.evals hf]; apply Array.ext'; simp
  have e2 : captured.map a.eval = cs.toArray := by rw [← hF.evals hc]; apply Array.ext'; simp
  simp [execOp, ho, Instr.makeFunc, e1, e2]

/-! ### Regions walked in the text's order -/
variable {ops : Array Oper} {rest : List Oper} {Q : Exit → Act → World → Prop}
def S (P : Program) (ops : Array Oper) (Q : Exit → Act → World → Prop) (n : Nat) (O : List Nat) (w0 : World) (rest : List Oper) (l : List (Nat × Value)) (L : List (Nat × TypeId × Array Value)) : Prop :=
  ∀ a w, Fr n l a → Kn O w0 w L → wpList P ops Q rest a w
theorem s_val (hg : o.guard = none) (hd : o.dst = some d) (hn : Nat.blt d n = true) (hr : Rn P n O w0 l L o v) (h : S P ops Q n O w0 rest ((d, v) :: l) L) : S P ops Q n O w0 (o :: rest) l L := fun a w hF hL =>
  wpl_run hg (hr a w hF hL) (by rw [hd]; exact h _ _ (hF.put hn v) hL)
/-- A new block. -/
def Nw (P : Program) (n : Nat) (l : List (Nat × Value)) (o : Oper) (T : TypeId) (cs : Array Value) (pv : Nat → Value) : Prop :=
  ∀ a w, Fr n l a → (execOp a.eval o).run P w = .ok (.value (pv w.heap.size)) (w.alloc (.cells cs T (0, 0)))
theorem s_newv {T : TypeId} {cs : Array Value} {pv : Nat → Value} (hg : o.guard = none) (hd : o.dst = some d) (hn : Nat.blt d n = true) (hr : Nw P n l o T cs pv) (h : ∀ g, S P ops Q n O w0 rest ((d, pv g) :: l) ((g, T, cs) :: L)) : S P ops Q n O w0 (o :: rest) l L := fun a w hF hL =>
  wpl_run hg (hr a w hF) (by rw [hd]; exact h w.heap.size _ _ (hF.put hn _) (hL.new T cs))
theorem n_box {t : TypeId} {cs : Array Value} (ho : o.op = .box t x) (hx : ev l x = some v) (hc : v.cells = cs) : Nw P n l o t cs (fun g => .pointer (some ⟨g, 0, none⟩)) := fun a w hF => by
  subst hc; have := run_box (P := P) (a := a) ho w; unfold Calm.newAt at this; rw [hF.eval hx] at this; exact this
theorem n_alloc {t : TypeId} {zz : Value} {cs : Array Value} (ho : o.op = .alloc t) (hz : (P.info? t).map (·.zero) = some (some zz)) (hc : zz.cells = cs) : Nw P n l o t cs (fun g => .pointer (some ⟨g, 0, none⟩)) := fun a w hF => by
  subst hc; have := run_alloc (P := P) (a := a) ho hz w; unfold Calm.newAt at this; exact this
theorem s_box {t : TypeId} {cs : Array Value} (hg : o.guard = none) (hd : o.dst = some d) (hn : Nat.blt d n = true) (ho : o.op = .box t x) (hx : ev l x = some v) (hc : v.cells = cs) (h : ∀ g, S P ops Q n O w0 rest ((d, .pointer (some ⟨g, 0, none⟩)) :: l) ((g, t, cs) :: L)) : S P ops Q n O w0 (o :: rest) l L :=
  s_newv hg hd hn (n_box ho hx hc) h
theorem s_alloc {t : TypeId} {cs : Array Value} (hg : o.guard = none) (hd : o.dst = some d) (hn : Nat.blt d n = true) (ho : o.op = .alloc t) {zz : Value} (hz : (P.info? t).map (·.zero) = some (some zz)) (hc : zz.cells = cs) (h : ∀ g, S P ops Q n O w0 rest ((d, .pointer (some ⟨g, 0, none⟩)) :: l) ((g, t, cs) :: L)) : S P ops Q n O w0 (o :: rest) l L :=
  s_newv hg hd hn (n_alloc ho hz hc) h
/-- a guard that lets the operation run; one that does not -/
theorem yl {a : Act} (hF : Fr n l a) {j t : Nat} {c : Bool} (hj : (ops[j]?).bind (·.dst) = some t) (ht : lk l t = some (.bool c)) : yielded ops a.tmps j = some c := by
  unfold yielded
  rw [hj, Option.bind_some, hF.get t _ ht]
theorem s_gd1 {dd : Option Tmp} {op : Op} {ty : TypeId} {ps : String} {af : Array Edge} {j : Nat} {b c : Bool} {t : Nat} (hj : (ops[j]?).bind (·.dst) = some t) (ht : lk l t = some (.bool c)) (hc : c = b) (h : S P ops Q n O w0 (⟨dd, op, ty, ps, af, none⟩ :: rest) l L) : S P ops Q n O w0 (⟨dd, op, ty, ps, af, some (j, b)⟩ :: rest) l L := fun a w hF hL => by
  have h1 := h a w hF hL
  have h2 : Region.wanted ⟨dd, op, ty, ps, af, some (j, b)⟩ (yielded ops a.tmps) = true := by simp [Region.wanted, yl hF hj ht, hc]
  unfold wpList at h1 ⊢
  rw [if_pos (by rfl)] at h1
  rw [if_pos h2]
  exact h1
theorem s_gd0 {op : Op} {ty : TypeId} {ps : String} {af : Array Edge} {j : Nat} {b c : Bool} {t : Nat} (hn : Nat.blt d n = true) (hj : (ops[j]?).bind (·.dst) = some t) (ht : lk l t = some (.bool c)) (hc : c = !b) (h : S P ops Q n O w0 rest ((d, undef) :: l) L) : S P ops Q n O w0 (⟨some d, op, ty, ps, af, some (j, b)⟩ :: rest) l L := fun a w hF hL => by
  have h2 : Region.wanted ⟨some d, op, ty, ps, af, some (j, b)⟩ (yielded ops a.tmps) = false := by simp [Region.wanted, yl hF hj ht, hc]
  unfold wpList
  rw [if_neg (by rw [h2]; simp)]
  exact h _ _ (hF.put hn undef) hL
theorem s_gd00 {op : Op} {ty : TypeId} {ps : String} {af : Array Edge} {j : Nat} {b c : Bool} {t : Nat} (hj : (ops[j]?).bind (·.dst) = some t) (ht : lk l t = some (.bool c)) (hc : c = !b) (h : S P ops Q n O w0 rest l L) : S P ops Q n O w0 (⟨none, op, ty, ps, af, some (j, b)⟩ :: rest) l L := fun a w hF hL => by
  have h2 : Region.wanted ⟨none, op, ty, ps, af, some (j, b)⟩ (yielded ops a.tmps) = false := by simp [Region.wanted, yl hF hj ht, hc]
  unfold wpList
  rw [if_neg (by rw [h2]; simp)]
  exact h _ _ hF hL
/-- parting on a guard's value -/
theorem s_part (c : Bool) (h1 : c = true → S P ops Q n O w0 rest l L) (h0 : c = false → S P ops Q n O w0 rest l L) : S P ops Q n O w0 rest l L := by cases c; exact h0 rfl; exact h1 rfl
/-! stores -/
def Set (cs : Array Value) (off : Nat) (vs cs' : Array Value) : Prop := off + vs.size ≤ cs.size ∧ (∀ u ∈ vs.toList, u.oneCell' = true) ∧ splice cs off vs = cs'
theorem set_whole {cs vs : Array Value} (hs : vs.size = cs.size) (h1 : ∀ u ∈ vs.toList, u.oneCell' = true) : Set cs 0 vs vs := ⟨by omega, h1, splice_whole cs vs hs⟩
theorem set_any {cs vs : Array Value} {off : Nat} (hs : off + vs.size ≤ cs.size) (h1 : ∀ u ∈ vs.toList, u.oneCell' = true) : Set cs off vs (splice cs off vs) := ⟨hs, h1, rfl⟩
theorem set_one {cs : Array Value} {off : Nat} {v : Value} (hs : off < cs.size) (h1 : v.oneCell' = true) : Set cs off #[v] (cs.setIfInBounds off v) := ⟨by simp; omega, one_only h1, splice_one cs off v hs⟩
theorem set_lit {c c' : List Value} {off : Nat} {v : Value} (h1 : v.oneCell' = true) (hc : c.set off v = c') (hs : off < c.length) : Set c.toArray off #[v] c'.toArray := by
  subst hc
  refine ⟨by simp; omega, one_only h1, ?_⟩
  rw [splice_one _ off v (by simpa using hs)]
  simp
theorem Kn.put {w : World} (h : Kn O w0 w L) {i g : Nat} {T : TypeId} {cs cs' : Array Value} (hi : L[i]? = some (g, T, cs)) : Kn O w0 (w.setRow g cs') (L.set i (g, T, cs')) := Own.put h hi cs'
theorem s_put {ty g off i sz : Nat} {T : TypeId} {b : Bool} {cs cs' vs : Array Value} {L' : List (Nat × TypeId × Array Value)} (tb : Tb P) (hg : o.guard = none) (hd : o.dst = none) (ho : o.op = .store ty x y) (hx : ev l x = some (.pointer (some ⟨g, off, none⟩))) (hy : ev l y = some v) (hc : v.cells = vs) (ht : lkT tb.s ty = some (b, sz)) (hsz : vs.size = sz)
    (hi : L[i]? = some (g, T, cs)) (hset : Set cs off vs cs') (hL' : L.set i (g, T, cs') = L') (h : S P ops Q n O w0 rest l L') : S P ops Q n O w0 (o :: rest) l L := fun a w hF hL => by
  obtain ⟨s1, s2, s3⟩ := hset
  subst s3; subst hL'
  refine wpl_skip hg (run_storeN ho (hF.eval hx) (by rw [hF.eval hy]; exact hc) (tb.size ht) hsz s2 (hL.at_ hi) (by omega)) ?_
  rw [hd]
  exact h a _ hF (Own.put hL hi _)

/-! calls -/
theorem run_callc {f : FuncId} {fn : Func} {xs : Array Operand} {ts : Array TypeId} {fx : Operand} {caps vs : List Value} {a : Act} (hf : P.funcs[f]? = some fn) (hname : (fn.name == "runtime.NumGoroutine") = false) (hb : fn.body.isSome = true) (hop : o.op = .call { callee := .value fx, args := xs, argTypes := ts })
    (hfx : a.eval fx = .func (.func f) #[] caps.toArray) (hargs : xs.toList.map a.eval = vs) (w : World) : (execOp a.eval o).run P w = .ok (.enter f (vs ++ caps).toArray) w := by
  have he := run_callFunc hf hname hb (vs ++ caps).toArray w
  have hm : xs.map a.eval = vs.toArray := by rw [← hargs]; apply Array.ext'; simp
  unfold execOp
  simp [hop, resolve, Deferred.ofValue, invoke, hfx, hm, he]
/-- A call, by what it leaves. -/
theorem s_callQ {ι : Type} {f : FuncId} {fn : Func} {xs : Array Operand} {ts : Array TypeId} {fx : Operand} {caps vs : List Value} (Pf : ι → Prop) (vf : ι → Value) (Lf : ι → List (Nat × TypeId × Array Value)) (hf : P.funcs[f]? = some fn) (hname : (fn.name == "runtime.NumGoroutine") = false) (hb : fn.body.isSome = true) (hg : o.guard = none) (hd : o.dst = some d) (hn : Nat.blt d n = true)
    (hop : o.op = .call { callee := .value fx, args := xs, argTypes := ts }) (hfx : ev l fx = some (.func (.func f) #[] caps.toArray)) (hargs : evs l xs.toList = some vs)
    (hc : ∀ w, Kn O w0 w L → Calls P f (vs ++ caps).toArray w fun e w' => ∃ i, Pf i ∧ e = .returned (vf i) ∧ Kn O w0 w' (Lf i)) (h : ∀ i, Pf i → S P ops Q n O w0 rest ((d, vf i) :: l) (Lf i)) : S P ops Q n O w0 (o :: rest) l L := fun a w hF hL =>
  wpList_plain hg fun K hK => by
    unfold Oper.wp
    rw [run_callc hf hname hb hop (hF.eval hfx) (hF.evals hargs) w]
    refine (hc w hL).mono fun e w' ⟨i, hP, he, hL'⟩ => ?_
    subst he
    rw [hd]
    exact hK _ _ (h i hP _ _ (hF.put hn _) hL')
theorem s_callc {f : FuncId} {fn : Func} {xs : Array Operand} {ts : Array TypeId} {fx : Operand} {caps vs : List Value} (hf : P.funcs[f]? = some fn) (hname : (fn.name == "runtime.NumGoroutine") = false) (hb : fn.body.isSome = true) (hg : o.guard = none) (hd : o.dst = some d) (hn : Nat.blt d n = true)
    (hop : o.op = .call { callee := .value fx, args := xs, argTypes := ts }) (hfx : ev l fx = some (.func (.func f) #[] caps.toArray)) (hargs : evs l xs.toList = some vs)
    (hc : ∀ w, Kn O w0 w L → Calls P f (vs ++ caps).toArray w fun e w' => e = .returned v ∧ Below w.heap.size w w') (h : S P ops Q n O w0 rest ((d, v) :: l) L) : S P ops Q n O w0 (o :: rest) l L :=
  s_callQ (ι := Unit) (fun _ => True) (fun _ => v) (fun _ => L) hf hname hb hg hd hn hop hfx hargs (fun w hL => (hc w hL).mono fun e w' ⟨he, hb⟩ => ⟨(), trivial, he, Own.ext hL hb⟩) (fun _ _ => h)
theorem s_call {f : FuncId} {fn : Func} {xs : Array Operand} {ts : Array TypeId} {vs : List Value} (hf : P.funcs[f]? = some fn) (hname : (fn.name == "runtime.NumGoroutine") = false) (hb : fn.body.isSome = true) (hg : o.guard = none) (hd : o.dst = some d) (hn : Nat.blt d n = true)
    (hop : o.op = .call { callee := .value (.func f), args := xs, argTypes := ts }) (hargs : evs l xs.toList = some vs)
    (hc : ∀ w, Kn O w0 w L → Calls P f vs.toArray w fun e w' => e = .returned v ∧ Below w.heap.size w w') (h : S P ops Q n O w0 rest ((d, v) :: l) L) : S P ops Q n O w0 (o :: rest) l L :=
  s_callc (caps := []) hf hname hb hg hd hn hop rfl hargs (fun w hL => by rw [List.append_nil]; exact hc w hL) h
theorem s_callR {ι : Type} {f : FuncId} {fn : Func} {xs : Array Operand} {ts : Array TypeId} {vs : List Value} (Pf : ι → Prop) (vf : ι → Value) (Lf : ι → List (Nat × TypeId × Array Value)) (hf : P.funcs[f]? = some fn) (hname : (fn.name == "runtime.NumGoroutine") = false) (hb : fn.body.isSome = true) (hg : o.guard = none) (hd : o.dst = some d) (hn : Nat.blt d n = true)
    (hop : o.op = .call { callee := .value (.func f), args := xs, argTypes := ts }) (hargs : evs l xs.toList = some vs)
    (hc : ∀ w, Kn O w0 w L → Calls P f vs.toArray w fun e w' => ∃ i, Pf i ∧ e = .returned (vf i) ∧ Kn O w0 w' (Lf i)) (h : ∀ i, Pf i → S P ops Q n O w0 rest ((d, vf i) :: l) (Lf i)) : S P ops Q n O w0 (o :: rest) l L :=
  s_callQ (caps := []) Pf vf Lf hf hname hb hg hd hn hop rfl hargs (fun w hL => by rw [List.append_nil]; exact hc w hL) h

/-! ### Code -/
def C (P : Program) (Q : Exit → Act → World → Prop) (n : Nat) (O : List Nat) (w0 : World) (c : Code) (l : List (Nat × Value)) (L : List (Nat × TypeId × Array Value)) : Prop :=
  ∀ a w, Fr n l a → Kn O w0 w L → c.wp P Q a w
def E (Q : Exit → Act → World → Prop) (n : Nat) (O : List Nat) (w0 : World) (e : Exit) (l : List (Nat × Value)) (L : List (Nat × TypeId × Array Value)) : Prop :=
  ∀ a w, Fr n l a → Kn O w0 w L → Q e a w
theorem s_nil (h : E Q n O w0 .normal l L) : S P ops Q n O w0 [] l L := fun a w hF hL => wpList_nil (h a w hF hL)
theorem c_seq {c d : Code} (h : C P (Exit.then (d.wp P Q) Q) n O w0 c l L) : C P Q n O w0 (c.seq d) l L := fun a w hF hL => wp_seq (h a w hF hL)
theorem c_skip (h : E Q n O w0 .normal l L) : C P Q n O w0 .skip l L := fun a w hF hL => wp_skip (h a w hF hL)
theorem c_ret (h : E Q n O w0 .ret l L) : C P Q n O w0 .ret l L := fun a w hF hL => wp_ret (h a w hF hL)
theorem c_exit {id : Nat} (h : E Q n O w0 (.exit id) l L) : C P Q n O w0 (.exit id) l L := fun a w hF hL => wp_exit (h a w hF hL)
theorem c_block {id : Nat} {c : Code} (h : C P (Exit.inBlock id Q) n O w0 c l L) : C P Q n O w0 (.block id c) l L := fun a w hF hL => wp_block (h a w hF hL)
theorem c_region {id : Nat} {r : List Oper} (h : S P r.toArray Q n O w0 r l L) : C P Q n O w0 (.region id r.toArray false) l L := fun a w hF hL => wp_region_lit (h a w hF hL)
theorem c_cond {x : Operand} {c d : Code} {b : Bool} (hx : ev l x = some (.bool b)) (h1 : b = true → C P Q n O w0 c l L) (h0 : b = false → C P Q n O w0 d l L) : C P Q n O w0 (.cond x c d) l L := fun a w hF hL =>
  wp_cond_split (hF.eval hx) (fun h => h1 h a w hF hL) (fun h => h0 h a w hF hL)
theorem c_condn {x : Operand} {c d : Code} {b : Bool} (hx : ev l x = some (.bool (!b))) (h1 : b = false → C P Q n O w0 c l L) (h0 : b = true → C P Q n O w0 d l L) : C P Q n O w0 (.cond x c d) l L :=
  c_cond hx (fun h => h1 (by simpa using h)) (fun h => h0 (by simpa using h))
theorem c_condd {x : Operand} {c d : Code} {p : Prop} [Decidable p] (hx : ev l x = some (.bool (decide p))) (h1 : p → C P Q n O w0 c l L) (h0 : ¬ p → C P Q n O w0 d l L) : C P Q n O w0 (.cond x c d) l L :=
  c_cond hx (fun h => h1 (by simpa using h)) (fun h => h0 (by simpa using h))
theorem c_conddn {x : Operand} {c d : Code} {p : Prop} [Decidable p] (hx : ev l x = some (.bool (!decide p))) (h1 : ¬ p → C P Q n O w0 c l L) (h0 : p → C P Q n O w0 d l L) : C P Q n O w0 (.cond x c d) l L :=
  c_cond hx (fun h => h1 (by simpa using h)) (fun h => h0 (by simpa using h))
theorem c_cond1 {x : Operand} {c d : Code} {b : Bool} (hx : ev l x = some (.bool b)) (hb : b = true) (h1 : C P Q n O w0 c l L) : C P Q n O w0 (.cond x c d) l L := c_cond hx (fun _ => h1) (fun h => by rw [hb] at h; cases h)
theorem c_cond0 {x : Operand} {c d : Code} {b : Bool} (hx : ev l x = some (.bool b)) (hb : b = false) (h0 : C P Q n O w0 d l L) : C P Q n O w0 (.cond x c d) l L := c_cond hx (fun h => by rw [hb] at h; cases h) (fun _ => h0)
theorem c_condd1 {x : Operand} {c d : Code} {p : Prop} [Decidable p] (hx : ev l x = some (.bool (decide p))) (hp : p) (h1 : C P Q n O w0 c l L) : C P Q n O w0 (.cond x c d) l L := c_condd hx (fun _ => h1) (fun h => absurd hp h)
theorem c_condd0 {x : Operand} {c d : Code} {p : Prop} [Decidable p] (hx : ev l x = some (.bool (decide p))) (hp : ¬ p) (h0 : C P Q n O w0 d l L) : C P Q n O w0 (.cond x c d) l L := c_condd hx (fun h => absurd h hp) (fun _ => h0)
theorem c_conddn1 {x : Operand} {c d : Code} {p : Prop} [Decidable p] (hx : ev l x = some (.bool (!decide p))) (hp : ¬ p) (h1 : C P Q n O w0 c l L) : C P Q n O w0 (.cond x c d) l L := c_conddn hx (fun _ => h1) (fun h => absurd h hp)
theorem c_conddn0 {x : Operand} {c d : Code} {p : Prop} [Decidable p] (hx : ev l x = some (.bool (!decide p))) (hp : p) (h0 : C P Q n O w0 d l L) : C P Q n O w0 (.cond x c d) l L := c_conddn hx (fun h => absurd hp h) (fun _ => h0)
theorem wp_loopI {c : Code} {a : Act} {w : World} (I : Nat → Act → World → Prop) {m : Nat} (h0 : I m a w) (round : ∀ m a w, I m a w → c.wp P (Exit.then (fun a' w' => ∃ m', m' < m ∧ I m' a' w') Q) a w) : (Code.loop c).wp P Q a w := by
  intro b k cs
  have key : ∀ m a w, I m a w → ∃ e a' w', Q e a' w' ∧ Arrives P (lone (b.at a (.code c :: .inLoop c :: k)) cs w) b k cs e a' w' := by
    intro m
    induction m using Nat.strongRecOn with
    | _ m ih =>
      intro a w hI
      obtain ⟨e, a1, w1, hq, harr⟩ := round m a w hI b (.inLoop c :: k) cs
      cases e with
      | normal =>
        obtain ⟨m', hlt, hI'⟩ := hq
        obtain ⟨e2, a2, w2, hq2, harr2⟩ := ih m' hlt a1 w1 hI'
        exact ⟨e2, a2, w2, hq2, .of_steps (Steps.trans harr (.one step_inLoop)) harr2⟩
      | exit id => exact ⟨_, a1, w1, hq, .pass (x := .inLoop c) rfl (fun _ _ => .inl (by simp)) harr⟩
      | goto l => exact ⟨_, a1, w1, hq, .pass (x := .inLoop c) rfl (fun _ _ => .inl (by simp)) harr⟩
      | ret => exact ⟨_, a1, w1, hq, .pass (x := .inLoop c) rfl (fun _ _ => .inl (by simp)) harr⟩
      | panic ch => exact ⟨_, a1, w1, hq, .pass (x := .inLoop c) rfl (fun _ _ => .inl (by simp)) harr⟩
      | outgrown => exact ⟨_, a1, w1, hq, .pass (x := .inLoop c) rfl (fun _ _ => .inl (by simp)) harr⟩
  obtain ⟨e, a', w', hq, harr⟩ := key m a w h0
  exact ⟨e, a', w', hq, .of_steps (.one step_loop) harr⟩
/-- A loop: its state i, a measure of it, what the slots and the blocks hold there. -/
def Rd {ι : Type} (n : Nat) (O : List Nat) (w0 : World) (μ : ι → Nat) (Pf : ι → Prop) (lf : ι → List (Nat × Value)) (Lf : ι → List (Nat × TypeId × Array Value)) (m : Nat) (a : Act) (w : World) : Prop := ∃ j, μ j < m ∧ Pf j ∧ Fr n (lf j) a ∧ Kn O w0 w (Lf j)
theorem c_loop {ι : Type} {c : Code} (μ : ι → Nat) (Pf : ι → Prop) (lf : ι → List (Nat × Value)) (Lf : ι → List (Nat × TypeId × Array Value)) (i : ι) (hP : Pf i) (hs : Sub l (lf i)) (hL0 : L = Lf i)
    (round : ∀ i, Pf i → C P (Exit.then (Rd n O w0 μ Pf lf Lf (μ i)) Q) n O w0 c (lf i) (Lf i)) : C P Q n O w0 (.loop c) l L := fun a w hF hL => by
  subst hL0
  refine wp_loopI (fun m a w => ∃ j, μ j = m ∧ Pf j ∧ Fr n (lf j) a ∧ Kn O w0 w (Lf j)) (m := μ i) ⟨i, rfl, hP, hF.sub hs, hL⟩ ?_
  rintro m a w ⟨j, rfl, h1, h2, h3⟩
  refine Code.wp_mono ?_ (round j h1 a w h2 h3)
  intro e a' w' hq
  cases e with
  | normal =>
    obtain ⟨j', hlt, p1, p2, p3⟩ := hq
    exact ⟨μ j', hlt, j', rfl, p1, p2, p3⟩
  | _ => exact hq
theorem e_then {nx : Code} (h : C P Q n O w0 nx l L) : E (Exit.then (nx.wp P Q) Q) n O w0 .normal l L := fun a w hF hL => h a w hF hL
theorem e_thenx {nx : Act → World → Prop} {id : Nat} (h : E Q n O w0 (.exit id) l L) : E (Exit.then nx Q) n O w0 (.exit id) l L := fun a w hF hL => h a w hF hL
theorem e_thenr {nx : Act → World → Prop} (h : E Q n O w0 .ret l L) : E (Exit.then nx Q) n O w0 .ret l L := fun a w hF hL => h a w hF hL
theorem e_blkn {id : Nat} (h : E Q n O w0 .normal l L) : E (Exit.inBlock id Q) n O w0 .normal l L := fun a w hF hL => h a w hF hL
theorem e_blkr {id : Nat} (h : E Q n O w0 .ret l L) : E (Exit.inBlock id Q) n O w0 .ret l L := fun a w hF hL => h a w hF hL
theorem e_blkx {id : Nat} (h : E Q n O w0 .normal l L) : E (Exit.inBlock id Q) n O w0 (.exit id) l L := fun a w hF hL => by simp only [Exit.inBlock, if_true]; exact h a w hF hL
theorem e_blky {id id' : Nat} (hne : Nat.beq id' id = false) (h : E Q n O w0 (.exit id') l L) : E (Exit.inBlock id Q) n O w0 (.exit id') l L := fun a w hF hL => by
  have : id' ≠ id := fun e => by subst e; simp at hne
  simp only [Exit.inBlock, if_neg this]; exact h a w hF hL
theorem e_round {ι : Type} {μ : ι → Nat} {Pf : ι → Prop} {lf : ι → List (Nat × Value)} {Lf : ι → List (Nat × TypeId × Array Value)} {m : Nat} (j : ι) (hm : μ j < m) (hP : Pf j) (hs : Sub l (lf j)) (hL0 : L = Lf j) : E (Exit.then (Rd n O w0 μ Pf lf Lf m) Q) n O w0 .normal l L := fun a w hF hL => by
  subst hL0; exact ⟨j, hm, hP, hF.sub hs, hL⟩

/-! ### Results -/
variable {fn : Func} {R : Ending → World → Prop}
def Re (P : Program) (n : Nat) (O : List Nat) (w0 : World) (l : List (Nat × Value)) (L : List (Nat × TypeId × Array Value)) (r : ResultVar) (v : Value) : Prop := ∀ a w, Fr n l a → Kn O w0 w L → ResIs P w a.tmps r v
theorem re_tmp {t : Nat} (h : lk l t = some v) : Re P n O w0 l L (.tmp t) v := fun a w hF hL => res_tmp (by simp [Array.getD_eq_getD_getElem?, hF.get t v h])
theorem re_cell (tb : Tb P) {t ty g sz : Nat} {T : TypeId} {cs : Array Value} (h : lk l t = some (.pointer (some ⟨g, 0, none⟩))) (hm : (g, T, cs) ∈ L) (ht : lkT tb.s ty = some (true, sz)) (hsz : cs.size = sz) : Re P n O w0 l L (.cell t ty) (.agg cs) := fun a w hF hL =>
  res_cell (hL.has _ hm) (by simp [Array.getD_eq_getD_getElem?, hF.get t _ h]) (tb.agg ht).1 hsz (tb.agg ht).2
theorem post_nr {a : Act} {w : World} (e : Exit) (he : e = .normal ∨ e = .ret) (h : bodyPost P fn R .ret a w) : bodyPost P fn R e a w := by rcases he with rfl | rfl <;> exact h
theorem post0 {a : Act} {w : World} (hf : fn.results = #[]) (hd : a.defers = []) (hR : R (.returned (.tuple #[])) w) : bodyPost P fn R .ret a w := by
  refine ⟨hd, _, ?_, hR⟩
  simp [results_sem, hf]
theorem e_ret0 {e : Exit} (he : e = .normal ∨ e = .ret) (hf : fn.results = #[]) (h : ∀ w, Kn O w0 w L → R (.returned (.tuple #[])) w) : E (bodyPost P fn R) n O w0 e l L := fun a w hF hL =>
  post_nr e he (post0 hf hF.defers (h w hL))
theorem e_ret1 {e : Exit} {r : ResultVar} (he : e = .normal ∨ e = .ret) (hf : fn.results = #[r]) (h1 : Re P n O w0 l L r v) (h : ∀ w, Kn O w0 w L → R (.returned v) w) : E (bodyPost P fn R) n O w0 e l L := fun a w hF hL =>
  post_nr e he (post1 hf (h1 a w hF hL) hF.defers (h w hL))
theorem e_ret3 {e : Exit} {r s t : ResultVar} {q : Value} (he : e = .normal ∨ e = .ret) (hf : fn.results = #[r, s, t]) (h1 : Re P n O w0 l L r v) (h2 : Re P n O w0 l L s u) (h3 : Re P n O w0 l L t q) (h : ∀ w, Kn O w0 w L → R (.returned (.tuple #[v, u, q])) w) : E (bodyPost P fn R) n O w0 e l L := fun a w hF hL =>
  post_nr e he (post3 hf (h1 a w hF hL) (h2 a w hF hL) (h3 a w hF hL) hF.defers (h w hL))
/-! ### Entering -/
def argl : Nat → List Value → List (Nat × Value)
  | _, [] => []
  | k, v :: vs => (k, v) :: argl (k + 1) vs
theorem argl_get : ∀ (vs : List Value) (k i : Nat) (v : Value), lk (argl k vs) i = some v → k ≤ i ∧ vs[i - k]? = some v
  | [], k, i, v, h => by cases h
  | u :: vs, k, i, v, h => by
    simp only [argl, lk] at h
    split at h
    · rename_i hk; injection h with h; subst h; have := Nat.eq_of_beq_eq_true hk; subst this; simp
    · obtain ⟨h1, h2⟩ := argl_get vs (k + 1) i v h
      refine ⟨by omega, ?_⟩
      rw [show i - k = (i - (k + 1)) + 1 by omega]
      simpa using h2
theorem enter {f : FuncId} {c : Code} {vs : List Value} {w : World} {m : Nat} (hf : P.funcs[f]? = some fn) (hb : fn.body = some c) (hm : fn.ntmps = m) (hle : Nat.ble vs.length m = true) (hl : argl 0 vs = l) (h : C P (bodyPost P fn R) m O w c l L) (hL : Kn O w w L) : Calls P f vs.toArray w R := by
  refine calls_of_wp hf hb (h _ _ ⟨?_, rfl, fun i v hv => ?_⟩ hL)
  · have := Nat.le_of_ble_eq_true hle
    simp [hm]; omega
  · subst hl
    obtain ⟨_, h2⟩ := argl_get vs 0 i v hv
    have hlt : i < vs.length := (List.getElem?_eq_some_iff.1 h2).1
    simp only [Nat.sub_zero] at h2
    rw [Array.getElem?_append_left (by simpa using hlt)]
    simpa using h2
/-! ### Regions that draw their order: calm ones (reads, sums, calls that only make memory, new blocks, stores into these) -/
section
open Calm
variable {pl : Nat → Plan} {k : Nat} {N N' : List (Nat × TypeId × Array Value)}
def Md (E : Made) (N : List (Nat × TypeId × Array Value)) : Prop := (N.map (·.1)).Nodup ∧ ∀ b ∈ N, E b.1 = some b.2
def X (P : Program) (ops : Array Oper) (Q : Exit → Act → World → Prop) (n : Nat) (O : List Nat) (w0 : World) (pl : Nat → Plan) (rest : List Oper) (k : Nat) (l : List (Nat × Value)) (N L : List (Nat × TypeId × Array Value)) : Prop :=
  ∀ a w E, Fr n l a → Kn O w0 w L → Md E N → wpLex P ops w.heap.size w pl (fun a' E' => ∀ w', Holds w.heap.size w E' w' → Q .normal a' w') rest k a E
theorem x_val (hg : o.guard = none) (hd : o.dst = some d) (hn : Nat.blt d n = true) (hr : Rn P n O w0 l L o v) (hp : pl k = .inl v) (h : X P ops Q n O w0 pl rest (k + 1) ((d, v) :: l) N L) : X P ops Q n O w0 pl (o :: rest) k l N L := fun a w E hF hL hE =>
  lex_val hg hp (fun w' hb => by unfold calmAt; rw [hr a w' hF (Own.ext hL hb)]; exact ⟨rfl, rfl⟩) (by rw [hd]; exact h _ w E (hF.put hn v) hL hE)
theorem x_callc {f : FuncId} {fn : Func} {xs : Array Operand} {ts : Array TypeId} {fx : Operand} {caps vs : List Value} (hf : P.funcs[f]? = some fn) (hname : (fn.name == "runtime.NumGoroutine") = false) (hb : fn.body.isSome = true) (hg : o.guard = none) (hd : o.dst = some d) (hn : Nat.blt d n = true)
    (hop : o.op = .call { callee := .value fx, args := xs, argTypes := ts }) (hfx : ev l fx = some (.func (.func f) #[] caps.toArray)) (hargs : evs l xs.toList = some vs)
    (hc : ∀ w, Kn O w0 w L → Calls P f (vs ++ caps).toArray w fun e w' => e = .returned v ∧ Below w.heap.size w w') (hp : pl k = .inl v) (h : X P ops Q n O w0 pl rest (k + 1) ((d, v) :: l) N L) : X P ops Q n O w0 pl (o :: rest) k l N L := fun a w E hF hL hE =>
  lex_val hg hp (fun w' hb' => by
    unfold calmAt
    rw [run_callc hf hname hb hop (hF.eval hfx) (hF.evals hargs) w']
    exact ⟨rfl, hc w' (Own.ext hL hb')⟩) (by rw [hd]; exact h _ w E (hF.put hn v) hL hE)
theorem x_call {f : FuncId} {fn : Func} {xs : Array Operand} {ts : Array TypeId} {vs : List Value} (hf : P.funcs[f]? = some fn) (hname : (fn.name == "runtime.NumGoroutine") = false) (hb : fn.body.isSome = true) (hg : o.guard = none) (hd : o.dst = some d) (hn : Nat.blt d n = true)
    (hop : o.op = .call { callee := .value (.func f), args := xs, argTypes := ts }) (hargs : evs l xs.toList = some vs)
    (hc : ∀ w, Kn O w0 w L → Calls P f vs.toArray w fun e w' => e = .returned v ∧ Below w.heap.size w w') (hp : pl k = .inl v) (h : X P ops Q n O w0 pl rest (k + 1) ((d, v) :: l) N L) : X P ops Q n O w0 pl (o :: rest) k l N L :=
  x_callc (caps := []) hf hname hb hg hd hn hop rfl hargs (fun w hL => by rw [List.append_nil]; exact hc w hL) hp h
theorem x_new {t : TypeId} {cs : Array Value} (hg : o.guard = none) (hd : o.dst = some d) (hn : Nat.blt d n = true) (hr : Nw P n l o t cs (fun g => .pointer (some ⟨g, 0, none⟩))) (hp : pl k = .inr (false, t, cs)) (h : ∀ g, X P ops Q n O w0 pl rest (k + 1) ((d, .pointer (some ⟨g, 0, none⟩)) :: l) ((g, t, cs) :: N) L) : X P ops Q n O w0 pl (o :: rest) k l N L := fun a w E hF hL hE => by
  unfold wpLex
  rw [if_pos (by simp [Region.wanted, hg])]
  unfold pOp
  rw [hp]
  refine ⟨fun w' _ => hr a w' hF, fun g hB he => ?_⟩
  rw [hd]
  refine h g _ w _ (hF.put hn _) hL ⟨?_, fun b hb => ?_⟩
  · simp only [List.map_cons, List.nodup_cons, List.mem_map, not_exists, not_and]
    exact ⟨fun b hb e => (by have := hE.2 b hb; rw [e, he] at this; cases this), hE.1⟩
  · rcases List.mem_cons.1 hb with rfl | hb
    · exact upd_same _ _ _
    · rw [upd_ne _ _ (fun e => by have := hE.2 b hb; rw [e, he] at this; cases this)]; exact hE.2 b hb
theorem x_box {t : TypeId} {cs : Array Value} (hg : o.guard = none) (hd : o.dst = some d) (hn : Nat.blt d n = true) (ho : o.op = .box t x) (hx : ev l x = some v) (hc : v.cells = cs) (hp : pl k = .inr (false, t, cs)) (h : ∀ g, X P ops Q n O w0 pl rest (k + 1) ((d, .pointer (some ⟨g, 0, none⟩)) :: l) ((g, t, cs) :: N) L) : X P ops Q n O w0 pl (o :: rest) k l N L :=
  x_new hg hd hn (n_box ho hx hc) hp h
theorem x_alloc {t : TypeId} {cs : Array Value} (hg : o.guard = none) (hd : o.dst = some d) (hn : Nat.blt d n = true) (ho : o.op = .alloc t) {zz : Value} (hz : (P.info? t).map (·.zero) = some (some zz)) (hc : zz.cells = cs) (hp : pl k = .inr (false, t, cs)) (h : ∀ g, X P ops Q n O w0 pl rest (k + 1) ((d, .pointer (some ⟨g, 0, none⟩)) :: l) ((g, t, cs) :: N) L) : X P ops Q n O w0 pl (o :: rest) k l N L :=
  x_new hg hd hn (n_alloc ho hz hc) hp h
/-- The whole of a new block is stored. -/
theorem x_put {ty g i sz : Nat} {T : TypeId} {b : Bool} {cs vs : Array Value} (tb : Tb P) (hg : o.guard = none) (hd : o.dst = none) (ho : o.op = .store ty x y) (hx : ev l x = some (.pointer (some ⟨g, 0, none⟩))) (hy : ev l y = some v) (hc : v.cells = vs) (ht : lkT tb.s ty = some (b, sz)) (hsz : vs.size = sz)
    (hi : N[i]? = some (g, T, cs)) (hset : Set cs 0 vs vs) (hso : cs.size = sz) (hp : pl k = .inr (true, T, vs)) (hN : N.set i (g, T, vs) = N') (h : X P ops Q n O w0 pl rest (k + 1) l N' L) : X P ops Q n O w0 pl (o :: rest) k l N L := fun a w E hF hL hE => by
  obtain ⟨s1, s2, s3⟩ := hset
  subst hN
  have hmem : (g, T, cs) ∈ N := List.mem_of_getElem? hi
  refine lex_store (t := T) (cs := vs) (old := cs) hg ho (hF.eval hx) (by rw [hF.eval hy]; exact hc) hsz (tb.size ht) s2 (hE.2 _ hmem) hso hp ?_
  rw [hd]
  refine h a w _ hF hL ⟨?_, fun c hcm => ?_⟩
  · have hlt : i < N.length := (List.getElem?_eq_some_iff.1 hi).1
    have hgi : N[i] = (g, T, cs) := (List.getElem?_eq_some_iff.1 hi).2
    have e : (N.set i (g, T, vs)).map (·.1) = N.map (·.1) := by
      rw [List.map_set]
      have this : (N.map (·.1))[i]'(by simpa using hlt) = g := by simp [hgi]
      have e2 : (N.map (·.1)).set i ((N.map (·.1))[i]'(by simpa using hlt)) = N.map (·.1) := List.set_getElem_self _
      rw [this] at e2
      exact e2
    rw [e]; exact hE.1
  · obtain ⟨j, hj, hcj⟩ := List.mem_iff_getElem.1 hcm
    have hjl : j < N.length := by simpa using hj
    rw [List.getElem_set] at hcj
    by_cases hij : i = j
    · rw [if_pos hij] at hcj; subst hcj; exact upd_same _ _ _
    · rw [if_neg hij] at hcj
      have hcm' : c ∈ N := hcj ▸ List.getElem_mem hjl
      have hne : c.1 ≠ g := fun e => by
        have hlt : i < N.length := (List.getElem?_eq_some_iff.1 hi).1
        have hgi : N[i] = (g, T, cs) := (List.getElem?_eq_some_iff.1 hi).2
        have hm0 : i < (N.map (·.1)).length := by simpa using hlt
        have hm1 : j < (N.map (·.1)).length := by simpa using hjl
        have h1 : i = j := (List.getElem_inj (h₀ := hm0) (h₁ := hm1) hE.1).1 (by simp [hgi, hcj, e])
        exact hij h1
      rw [upd_ne _ _ hne]; exact hE.2 c hcm'
theorem x_gd1 {dd : Option Tmp} {op : Op} {ty : TypeId} {ps : String} {af : Array Edge} {j : Nat} {b c : Bool} {t : Nat} (hj : (ops[j]?).bind (·.dst) = some t) (ht : lk l t = some (.bool c)) (hc : c = b) (h : X P ops Q n O w0 pl (⟨dd, op, ty, ps, af, none⟩ :: rest) k l N L) : X P ops Q n O w0 pl (⟨dd, op, ty, ps, af, some (j, b)⟩ :: rest) k l N L := fun a w E hF hL hE =>
  lex_want (o := ⟨dd, op, ty, ps, af, some (j, b)⟩) (by simp [Region.wanted, yl hF hj ht, hc]) (h a w E hF hL hE)
theorem x_gd0 {op : Op} {ty : TypeId} {ps : String} {af : Array Edge} {j : Nat} {b c : Bool} {t : Nat} (hn : Nat.blt d n = true) (hj : (ops[j]?).bind (·.dst) = some t) (ht : lk l t = some (.bool c)) (hc : c = !b) (hp : pl k = .inl undef) (h : X P ops Q n O w0 pl rest (k + 1) ((d, undef) :: l) N L) : X P ops Q n O w0 pl (⟨some d, op, ty, ps, af, some (j, b)⟩ :: rest) k l N L := fun a w E hF hL hE =>
  lex_skip (o := ⟨some d, op, ty, ps, af, some (j, b)⟩) (by simp [Region.wanted, yl hF hj ht, hc]) (h _ w E (hF.put hn undef) hL hE)
theorem Kn.add {w : World} (h : Kn O w0 w L) {g : Nat} {T : TypeId} {cs : Array Value} (hg : w0.heap.size ≤ g) (hne : ∀ x ∈ L, x.1 ≠ g) (hblk : w.heap[g]? = some (.cells cs T (0, 0))) : Kn O w0 w ((g, T, cs) :: L) := by
  refine ⟨h.os, h.tape, h.output, h.size, h.base, fun k hk hx => h.keep k hk fun x hx' => hx x (List.mem_cons_of_mem _ hx'), fun x hx => ?_, fun x hx => ?_, ?_⟩
  · rcases List.mem_cons.1 hx with rfl | hx
    · exact .inl hg
    · exact h.low x hx
  · rcases List.mem_cons.1 hx with rfl | hx
    · exact hblk
    · exact h.has x hx
  · simp only [List.map_cons, List.nodup_cons, List.mem_map, not_exists, not_and]
    exact ⟨fun x hx e => hne x hx e, h.nodup⟩
theorem Kn.join {w w' : World} {E : Made} (hL : Kn O w0 w L) (hH : Holds w.heap.size w E w') : ∀ {N : List (Nat × TypeId × Array Value)}, Md E N → Kn O w0 w' (N ++ L)
  | [], _ => Own.ext hL hH.below
  | (g, T, cs) :: N, hE => by
    have hlt : ∀ x ∈ L, x.1 < w.heap.size := fun x hx => (Array.getElem?_eq_some_iff.1 (hL.has x hx)).1
    have h1 := hE.1
    simp only [List.map_cons, List.nodup_cons, List.mem_map, not_exists, not_and] at h1
    have h2 := Kn.join hL hH (N := N) ⟨h1.2, fun b hb => hE.2 b (List.mem_cons_of_mem _ hb)⟩
    obtain ⟨hB, hblk⟩ := hH.has g T cs (hE.2 _ List.mem_cons_self)
    refine Kn.add h2 (Nat.le_trans hL.size hB) (fun x hx => ?_) hblk
    rcases List.mem_append.1 hx with hx | hx
    · exact h1.1 x hx
    · have := hlt x hx; omega
theorem x_nil (h : E Q n O w0 .normal l (N ++ L)) : X P ops Q n O w0 pl [] k l N L := fun a w E hF hL hE => by
  unfold wpLex
  exact fun w' hH => h a w' hF (Kn.join hL hH hE)
theorem x_nil0 (h : E Q n O w0 .normal l L) : X P ops Q n O w0 pl [] k l [] L := x_nil h
theorem c_drawX {id : Nat} {r : List Oper} (pl : List Plan) (hm : P.follows .mixedOrders = true) (hB : Region.lexB .any r.toArray = true) (hst : storesB .any r.toArray = true) (h : X P r.toArray Q n O w0 (fun i => pl.getD i (.inl undef)) r 0 l [] L) : C P Q n O w0 (.region id r.toArray true) l L := fun a w hF hL =>
  wp_region_calm_lit pl hm hB hst (h a w _ hF hL ⟨by simp, fun _ hb => by cases hb⟩)
end
/-! ### Regions that draw: reads and quiet calls, then a tail in order -/
def T (P : Program) (ops : Array Oper) (Q : Exit → Act → World → Prop) (n : Nat) (O : List Nat) (w0 : World) (tail rest : List Oper) (l : List (Nat × Value)) (L : List (Nat × TypeId × Array Value)) : Prop :=
  ∀ a w, Fr n l a → Kn O w0 w L → wpStill P ops w (fun a' => wpList P ops Q tail a' w) rest a
variable {tail : List Oper}
/-! ### The laws in the forms that a walk takes -/
theorem s_boxA {t : TypeId} {cs : Array Value} (ho : o.op = .box t x) (hx : ev l x = some (.agg cs)) (hg : o.guard = none) (hd : o.dst = some d) (hn : Nat.blt d n = true) (h : ∀ g, S P ops Q n O w0 rest ((d, .pointer (some ⟨g, 0, none⟩)) :: l) ((g, t, cs) :: L)) : S P ops Q n O w0 (o :: rest) l L := s_box hg hd hn ho hx rfl h
theorem s_box1 {t : TypeId} (ho : o.op = .box t x) (hx : ev l x = some v) (h1 : v.oneCell' = true) (hg : o.guard = none) (hd : o.dst = some d) (hn : Nat.blt d n = true) (h : ∀ g, S P ops Q n O w0 rest ((d, .pointer (some ⟨g, 0, none⟩)) :: l) ((g, t, #[v]) :: L)) : S P ops Q n O w0 (o :: rest) l L := s_box hg hd hn ho hx (cells_one h1) h
theorem s_allocA {t : TypeId} {cs : Array Value} (ho : o.op = .alloc t) (hz : (P.info? t).map (·.zero) = some (some (.agg cs))) (hg : o.guard = none) (hd : o.dst = some d) (hn : Nat.blt d n = true) (h : ∀ g, S P ops Q n O w0 rest ((d, .pointer (some ⟨g, 0, none⟩)) :: l) ((g, t, cs) :: L)) : S P ops Q n O w0 (o :: rest) l L := s_alloc hg hd hn ho hz rfl h
theorem x_boxA {pl : Nat → Calm.Plan} {k : Nat} {N : List (Nat × TypeId × Array Value)} {t : TypeId} {cs : Array Value} (ho : o.op = .box t x) (hx : ev l x = some (.agg cs)) (hg : o.guard = none) (hd : o.dst = some d) (hn : Nat.blt d n = true) (hp : pl k = .inr (false, t, cs)) (h : ∀ g, X P ops Q n O w0 pl rest (k + 1) ((d, .pointer (some ⟨g, 0, none⟩)) :: l) ((g, t, cs) :: N) L) : X P ops Q n O w0 pl (o :: rest) k l N L := x_box hg hd hn ho hx rfl hp h
theorem x_allocA {pl : Nat → Calm.Plan} {k : Nat} {N : List (Nat × TypeId × Array Value)} {t : TypeId} {cs : Array Value} (ho : o.op = .alloc t) (hz : (P.info? t).map (·.zero) = some (some (.agg cs))) (hg : o.guard = none) (hd : o.dst = some d) (hn : Nat.blt d n = true) (hp : pl k = .inr (false, t, cs)) (h : ∀ g, X P ops Q n O w0 pl rest (k + 1) ((d, .pointer (some ⟨g, 0, none⟩)) :: l) ((g, t, cs) :: N) L) : X P ops Q n O w0 pl (o :: rest) k l N L := x_alloc hg hd hn ho hz rfl hp h
/-! parts of a struct, elements of a slice -/
def evp (l : List (Nat × Value)) : List (Nat × Operand) → Option (List (Nat × Value))
  | [] => some []
  | (i, x) :: xs => match ev l x with
    | some v => match evp l xs with
      | some vs => some ((i, v) :: vs)
      | none => none
    | none => none
theorem Fr.evp {a : Act} (h : Fr n l a) : ∀ {xs : List (Nat × Operand)} {vs : List (Nat × Value)}, evp l xs = some vs → xs.map (fun p => (p.1, a.eval p.2)) = vs
  | [], vs, hx => by cases hx; rfl
  | (i, x) :: xs, vs, hx => by
    simp only [Wk.evp] at hx
    split at hx
    · rename_i v hv
      split at hx
      · rename_i us hus
        injection hx with hx; subst hx
        rw [List.map_cons, h.eval hv, h.evp hus]
      · cases hx
    · cases hx
theorem r_build {t : TypeId} {parts : Array (Nat × Operand)} {ps : List (Nat × Value)} (ho : o.op = .build t parts) (hp : evp l parts.toList = some ps) (hr : ∀ w, (Instr.build t ps.toArray).run P w = .ok v w) : Rn P n O w0 l L o v := fun a w hF hL => by
  have e : parts.map (fun p => (p.1, a.eval p.2)) = ps.toArray := by rw [← hF.evp hp]; apply Array.ext'; simp
  have e' : (parts.map fun x => match x with | (i, x) => (i, a.eval x)) = ps.toArray := e
  simp [execOp, ho, e', hr]
theorem s_bsl {t : TypeId} {len : Nat} {T : TypeId} {cs : Array Value} {parts : Array (Nat × Operand)} {ps : List (Nat × Value)} (ho : o.op = .buildSlice t len parts) (hp : evp l parts.toList = some ps) (hr : ∀ w, (Instr.buildSlice t len ps.toArray).run P w = .ok (.slice (some ⟨w.heap.size, 0, none⟩) len len) (w.alloc (.cells cs T (0, 0))))
    (hg : o.guard = none) (hd : o.dst = some d) (hn : Nat.blt d n = true) (h : ∀ g, S P ops Q n O w0 rest ((d, .slice (some ⟨g, 0, none⟩) len len) :: l) ((g, T, cs) :: L)) : S P ops Q n O w0 (o :: rest) l L :=
  s_newv (pv := fun g => .slice (some ⟨g, 0, none⟩) len len) hg hd hn (fun a w hF => by
    have e : parts.map (fun p => (p.1, a.eval p.2)) = ps.toArray := by rw [← hF.evp hp]; apply Array.ext'; simp
    have e' : (parts.map fun x => match x with | (i, x) => (i, a.eval x)) = ps.toArray := e
    simp [execOp, ho, e', hr]) h
/-! guards that are not known -/
section
variable {dd : Option Tmp} {op : Op} {ty : TypeId} {ps : String} {af : Array Edge} {j : Nat} {t : Nat}
theorem s_gb1 {c : Bool} (hn : Nat.blt d n = true) (hj : (ops[j]?).bind (·.dst) = some t) (ht : lk l t = some (.bool c)) (h1 : c = true → S P ops Q n O w0 (⟨some d, op, ty, ps, af, none⟩ :: rest) l L) (h0 : c = false → S P ops Q n O w0 rest ((d, undef) :: l) L) : S P ops Q n O w0 (⟨some d, op, ty, ps, af, some (j, true)⟩ :: rest) l L :=
  s_part c (fun h => s_gd1 hj ht h (h1 h)) (fun h => s_gd0 hn hj ht h (h0 h))
theorem s_gb0 {c : Bool} (hn : Nat.blt d n = true) (hj : (ops[j]?).bind (·.dst) = some t) (ht : lk l t = some (.bool c)) (h1 : c = false → S P ops Q n O w0 (⟨some d, op, ty, ps, af, none⟩ :: rest) l L) (h0 : c = true → S P ops Q n O w0 rest ((d, undef) :: l) L) : S P ops Q n O w0 (⟨some d, op, ty, ps, af, some (j, false)⟩ :: rest) l L :=
  s_part c (fun h => s_gd0 hn hj ht h (h0 h)) (fun h => s_gd1 hj ht h (h1 h))
theorem s_gp1 {p : Prop} [Decidable p] (hn : Nat.blt d n = true) (hj : (ops[j]?).bind (·.dst) = some t) (ht : lk l t = some (.bool (decide p))) (h1 : p → S P ops Q n O w0 (⟨some d, op, ty, ps, af, none⟩ :: rest) l L) (h0 : ¬ p → S P ops Q n O w0 rest ((d, undef) :: l) L) : S P ops Q n O w0 (⟨some d, op, ty, ps, af, some (j, true)⟩ :: rest) l L :=
  s_gb1 hn hj ht (fun h => h1 (by simpa using h)) (fun h => h0 (by simpa using h))
theorem s_gp0 {p : Prop} [Decidable p] (hn : Nat.blt d n = true) (hj : (ops[j]?).bind (·.dst) = some t) (ht : lk l t = some (.bool (decide p))) (h1 : ¬ p → S P ops Q n O w0 (⟨some d, op, ty, ps, af, none⟩ :: rest) l L) (h0 : p → S P ops Q n O w0 rest ((d, undef) :: l) L) : S P ops Q n O w0 (⟨some d, op, ty, ps, af, some (j, false)⟩ :: rest) l L :=
  s_gb0 hn hj ht (fun h => h1 (by simpa using h)) (fun h => h0 (by simpa using h))
theorem s_gnb1 {c : Bool} (hn : Nat.blt d n = true) (hj : (ops[j]?).bind (·.dst) = some t) (ht : lk l t = some (.bool (!c))) (h1 : c = false → S P ops Q n O w0 (⟨some d, op, ty, ps, af, none⟩ :: rest) l L) (h0 : c = true → S P ops Q n O w0 rest ((d, undef) :: l) L) : S P ops Q n O w0 (⟨some d, op, ty, ps, af, some (j, true)⟩ :: rest) l L :=
  s_gb1 hn hj ht (fun h => h1 (by simpa using h)) (fun h => h0 (by simpa using h))
theorem s_gnb0 {c : Bool} (hn : Nat.blt d n = true) (hj : (ops[j]?).bind (·.dst) = some t) (ht : lk l t = some (.bool (!c))) (h1 : c = true → S P ops Q n O w0 (⟨some d, op, ty, ps, af, none⟩ :: rest) l L) (h0 : c = false → S P ops Q n O w0 rest ((d, undef) :: l) L) : S P ops Q n O w0 (⟨some d, op, ty, ps, af, some (j, false)⟩ :: rest) l L :=
  s_gb0 hn hj ht (fun h => h1 (by simpa using h)) (fun h => h0 (by simpa using h))
theorem s_gnp1 {p : Prop} [Decidable p] (hn : Nat.blt d n = true) (hj : (ops[j]?).bind (·.dst) = some t) (ht : lk l t = some (.bool (!decide p))) (h1 : ¬ p → S P ops Q n O w0 (⟨some d, op, ty, ps, af, none⟩ :: rest) l L) (h0 : p → S P ops Q n O w0 rest ((d, undef) :: l) L) : S P ops Q n O w0 (⟨some d, op, ty, ps, af, some (j, true)⟩ :: rest) l L :=
  s_gb1 hn hj ht (fun h => h1 (by simpa using h)) (fun h => h0 (by simpa using h))
theorem s_gnp0 {p : Prop} [Decidable p] (hn : Nat.blt d n = true) (hj : (ops[j]?).bind (·.dst) = some t) (ht : lk l t = some (.bool (!decide p))) (h1 : p → S P ops Q n O w0 (⟨some d, op, ty, ps, af, none⟩ :: rest) l L) (h0 : ¬ p → S P ops Q n O w0 rest ((d, undef) :: l) L) : S P ops Q n O w0 (⟨some d, op, ty, ps, af, some (j, false)⟩ :: rest) l L :=
  s_gb0 hn hj ht (fun h => h1 (by simpa using h)) (fun h => h0 (by simpa using h))
end
/-! truth -/
theorem nt1 {b : Bool} (h : b = false) : (!b) = true := by rw [h]; rfl
theorem nt0 {b : Bool} (h : b = true) : (!b) = false := by rw [h]; rfl
theorem dt1 {p : Prop} [Decidable p] (h : p) : decide p = true := decide_eq_true h
theorem dt0 {p : Prop} [Decidable p] (h : ¬ p) : decide p = false := decide_eq_false h
theorem ndt1 {p : Prop} [Decidable p] (h : ¬ p) : (!decide p) = true := nt1 (dt0 h)
theorem ndt0 {p : Prop} [Decidable p] (h : p) : (!decide p) = false := nt0 (dt1 h)
/-! bounds -/
def lo : IntKind → Int
  | .i8 => -128 | .i16 => -32768 | .i32 => -2147483648 | .i64 => -9223372036854775808 | _ => 0
def hi : IntKind → Int
  | .i8 => 127 | .i16 => 32767 | .i32 => 2147483647 | .i64 => 9223372036854775807 | .u8 => 255 | .u16 => 65535 | .u32 => 4294967295 | .u64 => 18446744073709551615
theorem wrap_in {k : IntKind} {m : Int} (h : lo k ≤ m ∧ m ≤ hi k) : k.wrap m = m := by
  cases k
  · exact IntWalk.i8_in m h
  · exact IntWalk.i16_in m h
  · exact IntWalk.i32_in m h
  · exact IntWalk.i64_in m h
  · exact IntWalk.u8_in m h
  · exact IntWalk.u16_in m h
  · exact IntWalk.u32_in m h
  · exact IntWalk.u64_in m h
theorem ext2_0 {p q : Value} {r : List Value} : (p :: q :: r).toArray.extract 0 (0 + 2) = #[p, q] := by simp
theorem ext2_2 {a b p q : Value} {r : List Value} : (a :: b :: p :: q :: r).toArray.extract 2 (2 + 2) = #[p, q] := by simp
theorem m0 {b : Nat × TypeId × Array Value} : b ∈ b :: L := by simp
theorem m1 {b0 : Nat × TypeId × Array Value} {b : Nat × TypeId × Array Value} : b ∈ b0 :: b :: L := by simp
theorem m2 {b0 b1 : Nat × TypeId × Array Value} {b : Nat × TypeId × Array Value} : b ∈ b0 :: b1 :: b :: L := by simp
theorem m3 {b0 b1 b2 : Nat × TypeId × Array Value} {b : Nat × TypeId × Array Value} : b ∈ b0 :: b1 :: b2 :: b :: L := by simp
theorem m4 {b0 b1 b2 b3 : Nat × TypeId × Array Value} {b : Nat × TypeId × Array Value} : b ∈ b0 :: b1 :: b2 :: b3 :: b :: L := by simp
theorem m5 {b0 b1 b2 b3 b4 : Nat × TypeId × Array Value} {b : Nat × TypeId × Array Value} : b ∈ b0 :: b1 :: b2 :: b3 :: b4 :: b :: L := by simp
theorem m6 {b0 b1 b2 b3 b4 b5 : Nat × TypeId × Array Value} {b : Nat × TypeId × Array Value} : b ∈ b0 :: b1 :: b2 :: b3 :: b4 :: b5 :: b :: L := by simp
theorem m7 {b0 b1 b2 b3 b4 b5 b6 : Nat × TypeId × Array Value} {b : Nat × TypeId × Array Value} : b ∈ b0 :: b1 :: b2 :: b3 :: b4 :: b5 :: b6 :: b :: L := by simp
theorem m8 {b0 b1 b2 b3 b4 b5 b6 b7 : Nat × TypeId × Array Value} {b : Nat × TypeId × Array Value} : b ∈ b0 :: b1 :: b2 :: b3 :: b4 :: b5 :: b6 :: b7 :: b :: L := by simp
theorem m9 {b0 b1 b2 b3 b4 b5 b6 b7 b8 : Nat × TypeId × Array Value} {b : Nat × TypeId × Array Value} : b ∈ b0 :: b1 :: b2 :: b3 :: b4 :: b5 :: b6 :: b7 :: b8 :: b :: L := by simp
theorem m10 {b0 b1 b2 b3 b4 b5 b6 b7 b8 b9 : Nat × TypeId × Array Value} {b : Nat × TypeId × Array Value} : b ∈ b0 :: b1 :: b2 :: b3 :: b4 :: b5 :: b6 :: b7 :: b8 :: b9 :: b :: L := by simp
theorem m11 {b0 b1 b2 b3 b4 b5 b6 b7 b8 b9 b10 : Nat × TypeId × Array Value} {b : Nat × TypeId × Array Value} : b ∈ b0 :: b1 :: b2 :: b3 :: b4 :: b5 :: b6 :: b7 :: b8 :: b9 :: b10 :: b :: L := by simp
theorem x_putA0 {pl : Nat → Calm.Plan} {k : Nat} {N : List (Nat × TypeId × Array Value)} {ty g sz : Nat} {T : TypeId} {cs vs : Array Value} {bb : Bool} (tb : Tb P) (ho : o.op = .store ty x y) (hx : ev l x = some (.pointer (some ⟨g, 0, none⟩))) (hy : ev l y = some (.agg vs)) (ht : lkT tb.s ty = some (bb, sz)) (hsz : vs.size = sz) (hset : Set cs 0 vs vs) (hso : cs.size = sz) (hg : o.guard = none) (hd : o.dst = none) (hp : pl k = .inr (true, T, vs)) (h : X P ops Q n O w0 pl rest (k + 1) l ((g, T, vs) :: N) L) : X P ops Q n O w0 pl (o :: rest) k l ((g, T, cs) :: N) L := x_put (i := 0) tb hg hd ho hx hy rfl ht hsz rfl hset hso hp rfl h
theorem x_putA1 {b0 : Nat × TypeId × Array Value} {pl : Nat → Calm.Plan} {k : Nat} {N : List (Nat × TypeId × Array Value)} {ty g sz : Nat} {T : TypeId} {cs vs : Array Value} {bb : Bool} (tb : Tb P) (ho : o.op = .store ty x y) (hx : ev l x = some (.pointer (some ⟨g, 0, none⟩))) (hy : ev l y = some (.agg vs)) (ht : lkT tb.s ty = some (bb, sz)) (hsz : vs.size = sz) (hset : Set cs 0 vs vs) (hso : cs.size = sz) (hg : o.guard = none) (hd : o.dst = none) (hp : pl k = .inr (true, T, vs)) (h : X P ops Q n O w0 pl rest (k + 1) l (b0 :: (g, T, vs) :: N) L) : X P ops Q n O w0 pl (o :: rest) k l (b0 :: (g, T, cs) :: N) L := x_put (i := 1) tb hg hd ho hx hy rfl ht hsz rfl hset hso hp rfl h
theorem x_putA2 {b0 b1 : Nat × TypeId × Array Value} {pl : Nat → Calm.Plan} {k : Nat} {N : List (Nat × TypeId × Array Value)} {ty g sz : Nat} {T : TypeId} {cs vs : Array Value} {bb : Bool} (tb : Tb P) (ho : o.op = .store ty x y) (hx : ev l x = some (.pointer (some ⟨g, 0, none⟩))) (hy : ev l y = some (.agg vs)) (ht : lkT tb.s ty = some (bb, sz)) (hsz : vs.size = sz) (hset : Set cs 0 vs vs) (hso : cs.size = sz) (hg : o.guard = none) (hd : o.dst = none) (hp : pl k = .inr (true, T, vs)) (h : X P ops Q n O w0 pl rest (k + 1) l (b0 :: b1 :: (g, T, vs) :: N) L) : X P ops Q n O w0 pl (o :: rest) k l (b0 :: b1 :: (g, T, cs) :: N) L := x_put (i := 2) tb hg hd ho hx hy rfl ht hsz rfl hset hso hp rfl h
theorem setl0 {c0 : Value} {r : List Value} (h1 : v.oneCell' = true) : Set (c0 :: r).toArray 0 #[v] (v :: r).toArray := set_lit h1 rfl (by simp)
theorem setl1 {c0 c1 : Value} {r : List Value} (h1 : v.oneCell' = true) : Set (c0 :: c1 :: r).toArray 1 #[v] (c0 :: v :: r).toArray := set_lit h1 rfl (by simp)
theorem setl2 {c0 c1 c2 : Value} {r : List Value} (h1 : v.oneCell' = true) : Set (c0 :: c1 :: c2 :: r).toArray 2 #[v] (c0 :: c1 :: v :: r).toArray := set_lit h1 rfl (by simp)
theorem setl3 {c0 c1 c2 c3 : Value} {r : List Value} (h1 : v.oneCell' = true) : Set (c0 :: c1 :: c2 :: c3 :: r).toArray 3 #[v] (c0 :: c1 :: c2 :: v :: r).toArray := set_lit h1 rfl (by simp)
theorem setl4 {c0 c1 c2 c3 c4 : Value} {r : List Value} (h1 : v.oneCell' = true) : Set (c0 :: c1 :: c2 :: c3 :: c4 :: r).toArray 4 #[v] (c0 :: c1 :: c2 :: c3 :: v :: r).toArray := set_lit h1 rfl (by simp)
theorem setl5 {c0 c1 c2 c3 c4 c5 : Value} {r : List Value} (h1 : v.oneCell' = true) : Set (c0 :: c1 :: c2 :: c3 :: c4 :: c5 :: r).toArray 5 #[v] (c0 :: c1 :: c2 :: c3 :: c4 :: v :: r).toArray := set_lit h1 rfl (by simp)
theorem setl6 {c0 c1 c2 c3 c4 c5 c6 : Value} {r : List Value} (h1 : v.oneCell' = true) : Set (c0 :: c1 :: c2 :: c3 :: c4 :: c5 :: c6 :: r).toArray 6 #[v] (c0 :: c1 :: c2 :: c3 :: c4 :: c5 :: v :: r).toArray := set_lit h1 rfl (by simp)
theorem setl7 {c0 c1 c2 c3 c4 c5 c6 c7 : Value} {r : List Value} (h1 : v.oneCell' = true) : Set (c0 :: c1 :: c2 :: c3 :: c4 :: c5 :: c6 :: c7 :: r).toArray 7 #[v] (c0 :: c1 :: c2 :: c3 :: c4 :: c5 :: c6 :: v :: r).toArray := set_lit h1 rfl (by simp)
theorem set2_0 {a b p q : Value} {r : List Value} (h1 : p.oneCell' = true) (h2 : q.oneCell' = true) : Set (a :: b :: r).toArray 0 #[p, q] (p :: q :: r).toArray := ⟨by simp, by simp [h1, h2], by simp [splice]⟩
theorem set2_2 {a b c d p q : Value} {r : List Value} (h1 : p.oneCell' = true) (h2 : q.oneCell' = true) : Set (a :: b :: c :: d :: r).toArray 2 #[p, q] (a :: b :: p :: q :: r).toArray := ⟨by simp, by simp [h1, h2], by simp [splice]⟩
/-! gates and loads in two steps -/
section
variable {pl : Nat → Calm.Plan} {k : Nat} {N : List (Nat × TypeId × Array Value)}
end
/-- What a load of this type at this place of these cells gives. -/
def Ldv (P : Program) (ty : TypeId) (cs : Array Value) (off : Nat) (v : Value) : Prop :=
  (oneT P ty = true ∧ cs[off]? = some v) ∨ ∃ m, aggT P ty = true ∧ (P.info? ty).map (·.size) = some m ∧ off + m ≤ cs.size ∧ v = .agg (cs.extract off (off + m))
theorem ldv1 (tb : Tb P) {ty off sz : Nat} {cs : Array Value} (ht : lkT tb.s ty = some (false, sz)) (hv : cs[off]? = some v) : Ldv P ty cs off v := .inl ⟨(tb.one ht).1, hv⟩
theorem ldvW (tb : Tb P) {ty sz : Nat} {cs : Array Value} (ht : lkT tb.s ty = some (true, sz)) (hs : cs.size = sz) : Ldv P ty cs 0 (.agg cs) := .inr ⟨sz, (tb.agg ht).1, (tb.agg ht).2, by omega, by subst hs; simp⟩
theorem ldvN (tb : Tb P) {ty off sz : Nat} {cs vs : Array Value} (ht : lkT tb.s ty = some (true, sz)) (hv : cs.extract off (off + sz) = vs) (hfit : Nat.ble (off + sz) cs.size = true) : Ldv P ty cs off (.agg vs) := .inr ⟨sz, (tb.agg ht).1, (tb.agg ht).2, Nat.le_of_ble_eq_true hfit, by rw [hv]⟩
theorem r_ldv {ty g off : Nat} {T : TypeId} {cs : Array Value} (ho : o.op = .load ty x) (hx : ev l x = some (.pointer (some ⟨g, off, none⟩))) (hm : (g, T, cs) ∈ L) (hv : Ldv P ty cs off v) : Rn P n O w0 l L o v := fun a w hF hL => by
  rcases hv with ⟨h1, h2⟩ | ⟨m, h1, h2, h3, rfl⟩
  · exact run_load1 ho h1 (hF.eval hx) (by rw [cell_of_row w g off cs T (0, 0) (hL.has _ hm)]; exact h2)
  · exact run_loadN ho h1 (hF.eval hx) (hL.has _ hm) h2 h3
theorem r_ldo {ty g off : Nat} {T : TypeId} {cs : Array Value} (ho : o.op = .load ty x) (hx : ev l x = some (.pointer (some ⟨g, off, none⟩))) (hw : w0.heap[g]? = some (.cells cs T (0, 0))) (hO : g ∉ O) (hv : Ldv P ty cs off v) : Rn P n O w0 l L o v := fun a w hF hL => by
  rcases hv with ⟨h1, h2⟩ | ⟨m, h1, h2, h3, rfl⟩
  · exact run_load1 ho h1 (hF.eval hx) (by rw [cell_of_row w g off cs T (0, 0) (Kn.old hL hw hO)]; exact h2)
  · exact run_loadN ho h1 (hF.eval hx) (Kn.old hL hw hO) h2 h3
theorem Kn.at_ {w : World} (h : Kn O w0 w L) {g : Nat} {T : TypeId} {cs : Array Value} (hm : (g, T, cs) ∈ L) : w.heap[g]? = some (.cells cs T (0, 0)) := h.has _ hm
theorem enter1 {f : FuncId} {c : Code} {v0 : Value} {w : World} {m : Nat} (hf : P.funcs[f]? = some fn) (hb : fn.body = some c) (hm : fn.ntmps = m) (hle : Nat.ble 1 m = true) (hL : Kn O w w L) (h : C P (bodyPost P fn R) m O w c [(0, v0)] L) : Calls P f [v0].toArray w R := enter (vs := [v0]) hf hb hm hle rfl h hL
theorem enter2 {f : FuncId} {c : Code} {v0 v1 : Value} {w : World} {m : Nat} (hf : P.funcs[f]? = some fn) (hb : fn.body = some c) (hm : fn.ntmps = m) (hle : Nat.ble 2 m = true) (hL : Kn O w w L) (h : C P (bodyPost P fn R) m O w c [(0, v0), (1, v1)] L) : Calls P f [v0, v1].toArray w R := enter (vs := [v0, v1]) hf hb hm hle rfl h hL
theorem enter3 {f : FuncId} {c : Code} {v0 v1 v2 : Value} {w : World} {m : Nat} (hf : P.funcs[f]? = some fn) (hb : fn.body = some c) (hm : fn.ntmps = m) (hle : Nat.ble 3 m = true) (hL : Kn O w w L) (h : C P (bodyPost P fn R) m O w c [(0, v0), (1, v1), (2, v2)] L) : Calls P f [v0, v1, v2].toArray w R := enter (vs := [v0, v1, v2]) hf hb hm hle rfl h hL
theorem enter4 {f : FuncId} {c : Code} {v0 v1 v2 v3 : Value} {w : World} {m : Nat} (hf : P.funcs[f]? = some fn) (hb : fn.body = some c) (hm : fn.ntmps = m) (hle : Nat.ble 4 m = true) (hL : Kn O w w L) (h : C P (bodyPost P fn R) m O w c [(0, v0), (1, v1), (2, v2), (3, v3)] L) : Calls P f [v0, v1, v2, v3].toArray w R := enter (vs := [v0, v1, v2, v3]) hf hb hm hle rfl h hL
/-! ### Gates: which operation stands first (so that a walk fails fast), for each of the three kinds of region -/
/-- the number of an operation's kind -/
def opk : Op → Nat
  | .move _ => 0 | .assign _ => 1 | .pick .. => 2 | .alloc _ => 3 | .box .. => 4 | .build .. => 5 | .buildSlice .. => 6 | .load .. => 8 | .store .. => 9 | .nilCheck _ => 12 | .binOp .. => 13 | .unOp .. => 14 | .convert .. => 15
  | .makeFunc .. => 18 | .makeMap .. => 19 | .makeSlice .. => 21 | .slice .. => 22 | .fieldAddr .. => 23 | .field .. => 24 | .indexAddr .. => 25 | .index .. => 26 | .lookup .. => 27 | .mapUpdate .. => 28 | .extract .. => 34 | .call c => (match c.callee with | .builtin _ => 36 | _ => 35) | _ => 99
theorem s_k (k : Nat) (ho : opk o.op = k) (h : S P ops Q n O w0 (o :: rest) l L) : S P ops Q n O w0 (o :: rest) l L := h
theorem s_gd {q : Nat × Bool} (ho : o.guard = some q) (h : S P ops Q n O w0 (o :: rest) l L) : S P ops Q n O w0 (o :: rest) l L := h
section
variable {pl : Nat → Calm.Plan} {k : Nat} {N : List (Nat × TypeId × Array Value)}
theorem x_k (kk : Nat) (ho : opk o.op = kk) (h : X P ops Q n O w0 pl (o :: rest) k l N L) : X P ops Q n O w0 pl (o :: rest) k l N L := h
theorem x_gd {q : Nat × Bool} (ho : o.guard = some q) (h : X P ops Q n O w0 pl (o :: rest) k l N L) : X P ops Q n O w0 pl (o :: rest) k l N L := h
end
theorem s_g (h : S P ops Q n O w0 rest l L) : S P ops Q n O w0 rest l L := h
theorem c_g {c : Code} (h : C P Q n O w0 c l L) : C P Q n O w0 c l L := h
theorem e_g {e : Exit} (h : E Q n O w0 e l L) : E Q n O w0 e l L := h
theorem c_gc {xx : Operand} {c c' : Code} (h : C P Q n O w0 (.cond xx c c') l L) : C P Q n O w0 (.cond xx c c') l L := h
/-! stores in two steps -/
def St (P : Program) (ops : Array Oper) (Q : Exit → Act → World → Prop) (n : Nat) (O : List Nat) (w0 : World) (g off : Nat) (vs : Array Value) (rest : List Oper) (l : List (Nat × Value)) (L : List (Nat × TypeId × Array Value)) : Prop :=
  ∃ i T cs cs', L[i]? = some (g, T, cs) ∧ Set cs off vs cs' ∧ S P ops Q n O w0 rest l (L.set i (g, T, cs'))
theorem s_st {ty g off sz : Nat} {bb : Bool} {vs : Array Value} (tb : Tb P) (ho : o.op = .store ty x y) (hx : ev l x = some (.pointer (some ⟨g, off, none⟩))) (hy : ev l y = some v) (hc : v.cells = vs) (ht : lkT tb.s ty = some (bb, sz)) (hsz : vs.size = sz) (hg : o.guard = none) (hd : o.dst = none)
    (h : St P ops Q n O w0 g off vs rest l L) : S P ops Q n O w0 (o :: rest) l L := by
  obtain ⟨i, T, cs, cs', h1, h2, h3⟩ := h
  exact s_put tb hg hd ho hx hy hc ht hsz h1 h2 rfl h3
theorem s_stA {ty g off sz : Nat} {bb : Bool} {vs : Array Value} (tb : Tb P) (ho : o.op = .store ty x y) (hx : ev l x = some (.pointer (some ⟨g, off, none⟩))) (hy : ev l y = some (.agg vs)) (ht : lkT tb.s ty = some (bb, sz)) (hsz : vs.size = sz) (hg : o.guard = none) (hd : o.dst = none)
    (h : St P ops Q n O w0 g off vs rest l L) : S P ops Q n O w0 (o :: rest) l L := s_st tb ho hx hy rfl ht hsz hg hd h
theorem s_st1 {ty g off sz : Nat} {bb : Bool} (tb : Tb P) (ho : o.op = .store ty x y) (hx : ev l x = some (.pointer (some ⟨g, off, none⟩))) (hy : ev l y = some v) (h1 : v.oneCell' = true) (ht : lkT tb.s ty = some (bb, sz)) (hsz : (1 : Nat) = sz) (hg : o.guard = none) (hd : o.dst = none)
    (h : St P ops Q n O w0 g off #[v] rest l L) : S P ops Q n O w0 (o :: rest) l L := s_st tb ho hx hy (cells_one h1) ht hsz hg hd h

theorem st0 {g off : Nat} {T : TypeId} {cs cs' vs : Array Value} (hset : Set cs off vs cs') (h : S P ops Q n O w0 rest l ((g, T, cs') :: L)) : St P ops Q n O w0 g off vs rest l ((g, T, cs) :: L) := ⟨0, T, cs, cs', rfl, hset, h⟩
theorem st1 {b0 : Nat × TypeId × Array Value} {g off : Nat} {T : TypeId} {cs cs' vs : Array Value} (hset : Set cs off vs cs') (h : S P ops Q n O w0 rest l (b0 :: (g, T, cs') :: L)) : St P ops Q n O w0 g off vs rest l (b0 :: (g, T, cs) :: L) := ⟨1, T, cs, cs', rfl, hset, h⟩
theorem st2 {b0 b1 : Nat × TypeId × Array Value} {g off : Nat} {T : TypeId} {cs cs' vs : Array Value} (hset : Set cs off vs cs') (h : S P ops Q n O w0 rest l (b0 :: b1 :: (g, T, cs') :: L)) : St P ops Q n O w0 g off vs rest l (b0 :: b1 :: (g, T, cs) :: L) := ⟨2, T, cs, cs', rfl, hset, h⟩
theorem st3 {b0 b1 b2 : Nat × TypeId × Array Value} {g off : Nat} {T : TypeId} {cs cs' vs : Array Value} (hset : Set cs off vs cs') (h : S P ops Q n O w0 rest l (b0 :: b1 :: b2 :: (g, T, cs') :: L)) : St P ops Q n O w0 g off vs rest l (b0 :: b1 :: b2 :: (g, T, cs) :: L) := ⟨3, T, cs, cs', rfl, hset, h⟩
theorem st4 {b0 b1 b2 b3 : Nat × TypeId × Array Value} {g off : Nat} {T : TypeId} {cs cs' vs : Array Value} (hset : Set cs off vs cs') (h : S P ops Q n O w0 rest l (b0 :: b1 :: b2 :: b3 :: (g, T, cs') :: L)) : St P ops Q n O w0 g off vs rest l (b0 :: b1 :: b2 :: b3 :: (g, T, cs) :: L) := ⟨4, T, cs, cs', rfl, hset, h⟩
theorem st5 {b0 b1 b2 b3 b4 : Nat × TypeId × Array Value} {g off : Nat} {T : TypeId} {cs cs' vs : Array Value} (hset : Set cs off vs cs') (h : S P ops Q n O w0 rest l (b0 :: b1 :: b2 :: b3 :: b4 :: (g, T, cs') :: L)) : St P ops Q n O w0 g off vs rest l (b0 :: b1 :: b2 :: b3 :: b4 :: (g, T, cs) :: L) := ⟨5, T, cs, cs', rfl, hset, h⟩
theorem st6 {b0 b1 b2 b3 b4 b5 : Nat × TypeId × Array Value} {g off : Nat} {T : TypeId} {cs cs' vs : Array Value} (hset : Set cs off vs cs') (h : S P ops Q n O w0 rest l (b0 :: b1 :: b2 :: b3 :: b4 :: b5 :: (g, T, cs') :: L)) : St P ops Q n O w0 g off vs rest l (b0 :: b1 :: b2 :: b3 :: b4 :: b5 :: (g, T, cs) :: L) := ⟨6, T, cs, cs', rfl, hset, h⟩
theorem st7 {b0 b1 b2 b3 b4 b5 b6 : Nat × TypeId × Array Value} {g off : Nat} {T : TypeId} {cs cs' vs : Array Value} (hset : Set cs off vs cs') (h : S P ops Q n O w0 rest l (b0 :: b1 :: b2 :: b3 :: b4 :: b5 :: b6 :: (g, T, cs') :: L)) : St P ops Q n O w0 g off vs rest l (b0 :: b1 :: b2 :: b3 :: b4 :: b5 :: b6 :: (g, T, cs) :: L) := ⟨7, T, cs, cs', rfl, hset, h⟩
theorem st8 {b0 b1 b2 b3 b4 b5 b6 b7 : Nat × TypeId × Array Value} {g off : Nat} {T : TypeId} {cs cs' vs : Array Value} (hset : Set cs off vs cs') (h : S P ops Q n O w0 rest l (b0 :: b1 :: b2 :: b3 :: b4 :: b5 :: b6 :: b7 :: (g, T, cs') :: L)) : St P ops Q n O w0 g off vs rest l (b0 :: b1 :: b2 :: b3 :: b4 :: b5 :: b6 :: b7 :: (g, T, cs) :: L) := ⟨8, T, cs, cs', rfl, hset, h⟩
theorem st9 {b0 b1 b2 b3 b4 b5 b6 b7 b8 : Nat × TypeId × Array Value} {g off : Nat} {T : TypeId} {cs cs' vs : Array Value} (hset : Set cs off vs cs') (h : S P ops Q n O w0 rest l (b0 :: b1 :: b2 :: b3 :: b4 :: b5 :: b6 :: b7 :: b8 :: (g, T, cs') :: L)) : St P ops Q n O w0 g off vs rest l (b0 :: b1 :: b2 :: b3 :: b4 :: b5 :: b6 :: b7 :: b8 :: (g, T, cs) :: L) := ⟨9, T, cs, cs', rfl, hset, h⟩
theorem st10 {b0 b1 b2 b3 b4 b5 b6 b7 b8 b9 : Nat × TypeId × Array Value} {g off : Nat} {T : TypeId} {cs cs' vs : Array Value} (hset : Set cs off vs cs') (h : S P ops Q n O w0 rest l (b0 :: b1 :: b2 :: b3 :: b4 :: b5 :: b6 :: b7 :: b8 :: b9 :: (g, T, cs') :: L)) : St P ops Q n O w0 g off vs rest l (b0 :: b1 :: b2 :: b3 :: b4 :: b5 :: b6 :: b7 :: b8 :: b9 :: (g, T, cs) :: L) := ⟨10, T, cs, cs', rfl, hset, h⟩
theorem st11 {b0 b1 b2 b3 b4 b5 b6 b7 b8 b9 b10 : Nat × TypeId × Array Value} {g off : Nat} {T : TypeId} {cs cs' vs : Array Value} (hset : Set cs off vs cs') (h : S P ops Q n O w0 rest l (b0 :: b1 :: b2 :: b3 :: b4 :: b5 :: b6 :: b7 :: b8 :: b9 :: b10 :: (g, T, cs') :: L)) : St P ops Q n O w0 g off vs rest l (b0 :: b1 :: b2 :: b3 :: b4 :: b5 :: b6 :: b7 :: b8 :: b9 :: b10 :: (g, T, cs) :: L) := ⟨11, T, cs, cs', rfl, hset, h⟩
/-! bits -/
def shrV (k : IntKind) (m c : Int) : Int := m.fdiv (2 ^ min c.toNat k.bits)
def andV (k : IntKind) (m c : Int) : Int := k.wrap ((BitVec.ofInt k.bits m &&& BitVec.ofInt k.bits c).toNat)
section
variable {t t' : Nat} {k k' : IntKind} {m m' : Int}
theorem r_shr (ho : o.op = .binOp .shr t x y t') (hx : ev l x = some (.int k m)) (hy : ev l y = some (.int k' m')) (h0 : 0 ≤ m') : Rn P n O w0 l L o (.int k (shrV k m m')) := fun a w hF hL => by
  have h1 : ¬ m' < 0 := by omega
  simp [execOp, ho, hF.eval hx, hF.eval hy, eqGuard, binOp, Op.shift, h1, shrV]
theorem r_and (ho : o.op = .binOp .and t x y t') (hx : ev l x = some (.int k m)) (hy : ev l y = some (.int k m')) : Rn P n O w0 l L o (.int k (andV k m m')) := fun a w hF hL => by
  simp [execOp, ho, hF.eval hx, hF.eval hy, eqGuard, binOp, Op.intBits, andV]
end
theorem x_g {pl : Nat → Calm.Plan} {k : Nat} {N : List (Nat × TypeId × Array Value)} (h : X P ops Q n O w0 pl rest k l N L) : X P ops Q n O w0 pl rest k l N L := h
/-! cells of literal arrays -/
def nth : List Value → Nat → Option Value
  | [], _ => none
  | a :: _, 0 => some a
  | _ :: l, n + 1 => nth l n
theorem nth_eq : ∀ (c : List Value) (i : Nat), nth c i = c[i]?
  | [], i => by simp [nth]
  | a :: l, 0 => by simp [nth]
  | a :: l, n + 1 => by simp [nth, nth_eq l n]
theorem ldvL (tb : Tb P) {ty off sz : Nat} {c : List Value} (ht : lkT tb.s ty = some (false, sz)) (hv : nth c off = some v) : Ldv P ty c.toArray off v := ldv1 tb ht (by rw [nth_eq] at hv; simpa using hv)
theorem r_extractL {vs : List Value} {i : Nat} (ho : o.op = .extract x i) (hx : ev l x = some (.tuple vs.toArray)) (hv : nth vs i = some v) : Rn P n O w0 l L o v := r_extract ho hx (by rw [nth_eq] at hv; simpa using hv)
/-! blocks that are forgotten; calls of function values -/
theorem Kn.tail0 {w : World} {b : Nat × TypeId × Array Value} (h : Kn [] w0 w (b :: L)) : Kn [] w0 w L :=
  Own.drop h 1 fun x hx => by
    have hx' : x ∈ b :: L := List.mem_of_mem_take hx
    rcases h.low x hx' with h1 | h1
    · exact h1
    · cases h1
theorem Kn.tail1 {w : World} {b : Nat × TypeId × Array Value} {g : Nat} {T : TypeId} {cs : Array Value} (hm : (g, T, cs) ∈ L) (h : Kn [g] w0 w (b :: L)) : Kn [g] w0 w L :=
  Own.drop h 1 fun x hx => by
    have hx' : x = b := by simpa using hx
    subst hx'
    have hn := h.nodup
    simp only [List.map_cons, List.nodup_cons, List.mem_map, not_exists, not_and] at hn
    rcases h.low x List.mem_cons_self with h1 | h1
    · exact h1
    · have : x.1 = g := by simpa using h1
      exact absurd this.symm (hn.1 _ hm)
theorem e_drop0 {e : Exit} {b : Nat × TypeId × Array Value} (h : E Q n [] w0 e l L) : E Q n [] w0 e l (b :: L) := fun a w hF hL => h a w hF hL.tail0
theorem e_drop1 {e : Exit} {b : Nat × TypeId × Array Value} {g : Nat} {T : TypeId} {cs : Array Value} (hm : (g, T, cs) ∈ L) (h : E Q n [g] w0 e l L) : E Q n [g] w0 e l (b :: L) := fun a w hF hL => h a w hF (hL.tail1 hm)
theorem zTr {b : Prop} (h : b := by first | rfl | assumption | (apply dt1; assumption) | (apply dt0; assumption) | (apply nt1; assumption) | (apply nt0; assumption) | (apply ndt1; assumption) | (apply ndt0; assumption) | (apply dt1; omega) | (apply dt0; omega)) : b := h
theorem zMm {x : Nat × TypeId × Array Value} {L : List (Nat × TypeId × Array Value)} (h : x ∈ L := by (first | exact m0 | exact m1 | exact m2 | exact m3 | exact m4 | exact m5 | exact m6 | exact m7 | exact m8 | exact m9 | exact m10 | exact m11)) : x ∈ L := h
theorem z_condd1 {P : Program} {n : Nat} {O : List Nat} {w0 : World} {l : List (Nat × Value)} {L : List (Nat × TypeId × Array Value)} {Q : Exit → Act → World → Prop} {x : Operand} {c d : Code} {p : Prop} [Decidable p] (hx : ev l x = some (.bool (decide p))) (h1 : C P Q n O w0 c l L) (hp : p := by omega) : C P Q n O w0 (.cond x c d) l L := c_condd1 hx hp h1
theorem z_condd0 {P : Program} {n : Nat} {O : List Nat} {w0 : World} {l : List (Nat × Value)} {L : List (Nat × TypeId × Array Value)} {Q : Exit → Act → World → Prop} {x : Operand} {c d : Code} {p : Prop} [Decidable p] (hx : ev l x = some (.bool (decide p))) (h1 : C P Q n O w0 d l L) (hp : ¬ p := by omega) : C P Q n O w0 (.cond x c d) l L := c_condd0 hx hp h1
theorem z_conddn1 {P : Program} {n : Nat} {O : List Nat} {w0 : World} {l : List (Nat × Value)} {L : List (Nat × TypeId × Array Value)} {Q : Exit → Act → World → Prop} {x : Operand} {c d : Code} {p : Prop} [Decidable p] (hx : ev l x = some (.bool (!decide p))) (h1 : C P Q n O w0 c l L) (hp : ¬ p := by omega) : C P Q n O w0 (.cond x c d) l L := c_conddn1 hx hp h1
theorem z_conddn0 {P : Program} {n : Nat} {O : List Nat} {w0 : World} {l : List (Nat × Value)} {L : List (Nat × TypeId × Array Value)} {Q : Exit → Act → World → Prop} {x : Operand} {c d : Code} {p : Prop} [Decidable p] (hx : ev l x = some (.bool (!decide p))) (h1 : C P Q n O w0 d l L) (hp : p := by omega) : C P Q n O w0 (.cond x c d) l L := c_conddn0 hx hp h1
end Go.Proofs.Ytnafnhpajkhgkaa.Wk
