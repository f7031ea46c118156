import Derived.Test.YtpifngdmlmfnhaaQD10
import Derived.Test.YtpifngdmlmfnhaaQD15
import Derived.Test.YtpifngdmlmfnhaaQD22
import Derived.Test.YtpifngdmlmfnhaaQD23
import Derived.Test.YtpifngdmlmfnhaaQD27
/- The cells for a goat that lies in a list; the mask of a list of cells: the specification's. No condition. -/
namespace Go.Proofs.Ytpifngdmlmfnhaa
set_option linter.unusedVariables false
set_option linter.unusedSimpArgs false
open Go.RowKit Mem Wk
attribute [local irreducible] Calls Wk.S Wk.C Wk.E Wk.X Wk.T Wk.Y Wk.anV Wk.orV Wk.andV Wk.shlV Wk.shrV Calm.wpLex CalmB.wpLex bfsN
/-- a goat's cells from an offset on -/
structure GtAt (gu : Array Value) (o : Nat) (g : Gt) : Prop where
  fit : o + 7 ≤ gu.size
  at1 : o + 0 + 2 ≤ gu.size
  at2 : gu.extract (o + 0) (o + 0 + 2) = #[.int .i8 g.x, .int .i8 g.y]
  te1 : o + 2 + 2 ≤ gu.size
  te2 : gu.extract (o + 2) (o + 2 + 2) = #[.int .i8 g.u, .int .i8 g.v]
  rope : gu[o + 4]? = some (.int .i16 g.rope)
theorem ext_two {cs : Array Value} {o : Nat} {a b : Value} (h0 : cs[o]? = some a) (h1 : cs[o + 1]? = some b) : o + 2 ≤ cs.size ∧ cs.extract o (o + 2) = #[a, b] := by
  obtain ⟨q0, e0⟩ := Array.getElem?_eq_some_iff.1 h0
  obtain ⟨q1, e1⟩ := Array.getElem?_eq_some_iff.1 h1
  refine ⟨by omega, ?_⟩
  apply Array.ext
  · simp; omega
  · intro j hj1 hj2
    simp only [List.size_toArray, List.length_cons, List.length_nil] at hj2
    rcases (by omega : j = 0 ∨ j = 1) with rfl | rfl <;> simp_all [Array.getElem_extract]
theorem GtAt.ap {n cap : Nat} {cur : Array Value} {L : List Gt} (h : Ap 7 n cap cur (L.map Gt.cells).flatten) {k : Nat} {g : Gt} (hk : L[k]? = some g) : GtAt cur (0 + k * 7) g := by
  have hx : (L.map Gt.cells)[k]? = some g.cells := by simp [hk]
  have he := h.elem (lenGt L) hx
  have h0 : cur[0 + k * 7 + 0]? = some (.int .i8 g.x) := by rw [Nat.zero_add]; exact he 0 (by omega)
  have h1 : cur[0 + k * 7 + 0 + 1]? = some (.int .i8 g.y) := by rw [Nat.zero_add]; exact he 1 (by omega)
  have h2 : cur[0 + k * 7 + 2]? = some (.int .i8 g.u) := by rw [Nat.zero_add]; exact he 2 (by omega)
  have h3 : cur[0 + k * 7 + 2 + 1]? = some (.int .i8 g.v) := by rw [Nat.zero_add]; exact he 3 (by omega)
  have h4 : cur[0 + k * 7 + 4]? = some (.int .i16 g.rope) := by rw [Nat.zero_add]; exact he 4 (by omega)
  have h6 : cur[0 + k * 7 + 6]? = some (.int .i8 g.likes) := by rw [Nat.zero_add]; exact he 6 (by omega)
  have := (Array.getElem?_eq_some_iff.1 h6).1
  exact ⟨by omega, (ext_two h0 h1).1, (ext_two h0 h1).2, (ext_two h2 h3).1, (ext_two h2 h3).2, h4⟩
/-! the mask of a list -/
end Go.Proofs.Ytpifngdmlmfnhaa
/- A bite of a goat: plain words; two blocks that a callee has written. No condition. -/
namespace Go.Proofs.Ytpifngdmlmfnhaa
set_option linter.unusedVariables false
set_option linter.unusedSimpArgs false
open Go.RowKit Mem Wk
attribute [local irreducible] Calls Wk.S Wk.C Wk.E Wk.X Wk.T Wk.Y Wk.anV Wk.orV Wk.andV Wk.shlV Wk.shrV Calm.wpLex CalmB.wpLex bfsN
/-! what a bite does -/
def btB (p : Nat → Int) (g : Gt) (h : Int) : Bool := decide (0 < h) && (choV p g).2
def bitM (p : Nat → Int) (g : Gt) (h : Int) : Int := if btB p g h then min (min h 5) (p (gi (choV p g).1.x (choV p g).1.y)) else 0
def bitP (p : Nat → Int) (g : Gt) (h : Int) : Nat → Int := if btB p g h then upd p (gi (choV p g).1.x (choV p g).1.y) (p (gi (choV p g).1.x (choV p g).1.y) - bitM p g h) else p
def bitG (p : Nat → Int) (g : Gt) (h : Int) : Gt := if btB p g h then ⟨(choV p g).1.x, (choV p g).1.y, g.u, g.v, g.rope, g.eats, g.likes⟩ else g
theorem choAt_all {Q : Sp → Prop} (p : Nat → Int) (g : Gt) : ∀ (l : List Sp) (st : Sp × Bool), (st.2 = true → Q st.1) → (∀ c ∈ l, Q c) → (l.foldl (chStep p g) st).2 = true → Q (l.foldl (chStep p g) st).1
  | [], st, h, _, h2 => h h2
  | c :: l, st, h, hl, h2 => by
    rw [List.foldl_cons] at h2 ⊢
    refine choAt_all p g l _ (fun h3 => ?_) (fun d hd => hl d (List.mem_cons_of_mem _ hd)) h2
    unfold chStep at h3 ⊢
    split
    · rename_i hz; rw [if_pos hz] at h3; exact h h3
    · rename_i hz
      rw [if_neg hz] at h3
      split
      · exact hl c List.mem_cons_self
      · rename_i hq; rw [if_neg hq] at h3; exact h h3
/-- what a goat on a pasture needs -/
structure GtOn (p : Nat → Int) (g : Gt) : Prop where
  ok : g.ok
  rope : -1 ≤ g.rope
  a : p 0 ≤ 10
  b : p 1 ≤ 10
  c : isC (p 0) (p 1) g.x g.y = true
theorem choV_isC {p : Nat → Int} {g : Gt} (hg : GtOn p g) (h : (choV p g).2 = true) : isC (p 0) (p 1) (choV p g).1.x (choV p g).1.y = true :=
  choAt_all (Q := fun c => isC (p 0) (p 1) c.x c.y = true) p g (gtlL p g) (⟨0, 0⟩, false) (fun h => by cases h) (gtlL_isC hg.a hg.b) h
theorem choV_inR {p : Nat → Int} {g : Gt} (hg : GtOn p g) : inR (choV p g).1 := choAt_inR p g _ _ ⟨by simp, by simp, by simp, by simp⟩ (gtlL_inR hg.a hg.b)
theorem bitP_low {p : Nat → Int} {g : Gt} {h : Int} {i : Nat} (hi : i < 2) : bitP p g h i = p i := by
  unfold bitP; split
  · exact upd_ne _ _ (by unfold gi; omega)
  · rfl
theorem bit_on {p : Nat → Int} {g : Gt} {h : Int} (hg : GtOn p g) : GtOn (bitP p g h) (bitG p g h) := by
  have h0 := bitP_low (p := p) (g := g) (h := h) (i := 0) (by omega)
  have h1 := bitP_low (p := p) (g := g) (h := h) (i := 1) (by omega)
  have hr := choV_inR hg
  have hr2 := inR_ok hr
  have hk := hg.ok
  refine ⟨?_, ?_, by rw [h0]; exact hg.a, by rw [h1]; exact hg.b, ?_⟩
  · unfold bitG; split
    · exact ⟨hr2, hk.2⟩
    · exact hk
  · unfold bitG; split <;> exact hg.rope
  · rw [h0, h1]; unfold bitG; split
    · rename_i hb
      unfold btB at hb
      simp only [Bool.and_eq_true] at hb
      exact choV_isC hg hb.2
    · exact hg.c
theorem GtOn.bit {p : Nat → Int} {g g' : Gt} {h : Int} (hg : GtOn p g') : GtOn (bitP p g h) g' := by
  have h0 := bitP_low (p := p) (g := g) (h := h) (i := 0) (by omega)
  have h1 := bitP_low (p := p) (g := g) (h := h) (i := 1) (by omega)
  exact ⟨hg.ok, hg.rope, by rw [h0]; exact hg.a, by rw [h1]; exact hg.b, by rw [h0, h1]; exact hg.c⟩
theorem bitM_le {p : Nat → Int} {g : Gt} {h : Int} (h0 : 0 ≤ h) : bitM p g h ≤ h := by
  unfold bitM; split
  · omega
  · exact h0
theorem bitM_ge {p : Nat → Int} {cs : Array Value} {g : Gt} {h : Int} (hp : Pv p cs) (hg : GtOn p g) (h0 : 0 ≤ h) : -32768 ≤ bitM p g h ∧ bitM p g h ≤ 5 := by
  have hr := choV_inR hg
  have hgc := gi_lt ⟨hr.1, hr.2.1⟩ hr.2.2
  have h16 := hp.i16 _ hgc.1 hgc.2
  unfold bitM; split <;> omega
/-! two blocks that a callee has written -/
structure Upd2 (w w' : World) (g1 : Nat) (T1 : TypeId) (c1 : Array Value) (g2 : Nat) (T2 : TypeId) (c2 : Array Value) : Prop where
  os : w'.os = w.os
  tape : w'.tape = w.tape
  output : w'.output = w.output
  size : w.heap.size ≤ w'.heap.size
  keep : ∀ k, k < w.heap.size → k ≠ g1 → k ≠ g2 → w'.heap[k]? = w.heap[k]?
  has1 : w'.heap[g1]? = some (.cells c1 T1 (0, 0))
  has2 : w'.heap[g2]? = some (.cells c2 T2 (0, 0))
theorem Upd2.of {w0 w : World} {g1 g2 : Nat} {T1 T2 : TypeId} {c1 c2 : Array Value} {L : List (Nat × TypeId × Array Value)} (h : Kn [g1, g2] w0 w L) (hm1 : (g1, T1, c1) ∈ L) (hm2 : (g2, T2, c2) ∈ L) : Upd2 w0 w g1 T1 c1 g2 T2 c2 :=
  ⟨h.os, h.tape, h.output, h.size, fun k hk n1 n2 => h.keep k hk fun b hb e => by
    rcases h.low b hb with h1 | h1
    · omega
    · simp at h1; omega, h.has _ hm1, h.has _ hm2⟩
/-- two steps of one block each -/
theorem Upd2.split {w w' : World} {g1 g2 : Nat} {T1 T2 : TypeId} {c1 c2 d1 d2 : Array Value} (hne : g1 ≠ g2) (h1 : w.heap[g1]? = some (.cells d1 T1 (0, 0))) (h2 : w.heap[g2]? = some (.cells d2 T2 (0, 0))) (hu : Upd2 w w' g1 T1 c1 g2 T2 c2) : Upd w (w.setRow g1 c1) g1 T1 c1 ∧ Upd (w.setRow g1 c1) w' g2 T2 c2 := by
  refine ⟨⟨rfl, rfl, rfl, by simp, fun k hk hn => setRow_other w g1 k c1 hn, setRow_heap w g1 d1 c1 T1 (0, 0) h1⟩, ⟨hu.os, hu.tape, hu.output, by simpa using hu.size, fun k hk hn => ?_, hu.has2⟩⟩
  have hk' : k < w.heap.size := by simpa using hk
  by_cases e : k = g1
  · subst e; rw [hu.has1, setRow_heap w k d1 c1 T1 (0, 0) h1]
  · rw [hu.keep k hk' e hn, setRow_other w g1 k c1 e]
theorem Kn.ne2 {O : List Nat} {w0 w : World} {L : List (Nat × TypeId × Array Value)} (h : Kn O w0 w L) {i j : Nat} {x y : Nat × TypeId × Array Value} (hi : L[i]? = some x) (hj : L[j]? = some y) (hij : i ≠ j) : x.1 ≠ y.1 := fun e => by
  have hil := (List.getElem?_eq_some_iff.1 hi).1
  have hjl := (List.getElem?_eq_some_iff.1 hj).1
  have hm0 : i < (L.map (·.1)).length := by simpa using hil
  have hm1 : j < (L.map (·.1)).length := by simpa using hjl
  have e1 := (List.getElem?_eq_some_iff.1 hi).2
  have e2 := (List.getElem?_eq_some_iff.1 hj).2
  exact hij ((List.getElem_inj (h₀ := hm0) (h₁ := hm1) h.nodup).1 (by simp [e1, e2, e]))
/-! goats as cells of a block -/
def gtA (g : Gt) : Array Value := #[.int .i8 g.x, .int .i8 g.y, .int .i8 g.u, .int .i8 g.v, .int .i16 g.rope, .int .i16 g.eats, .int .i8 g.likes]
/-- these goats, one behind the other -/
def GtIn (l : List Gt) (o : Nat) (cur : Array Value) : Prop := ∀ i g, l[i]? = some g → ∀ j, j < 7 → cur[o + i * 7 + j]? = g.cells[j]?
theorem GtIn.fit {l : List Gt} {o : Nat} {cur : Array Value} (h : GtIn l o cur) {i : Nat} {g : Gt} (hg : l[i]? = some g) : o + i * 7 + 7 ≤ cur.size := by
  have h6 := h i g hg 6 (by omega)
  have : cur[o + i * 7 + 6]? = some (.int .i8 g.likes) := by rw [h6]; rfl
  have := (Array.getElem?_eq_some_iff.1 this).1
  omega
theorem GtIn.ext {l : List Gt} {o : Nat} {cur : Array Value} (h : GtIn l o cur) {i : Nat} {g : Gt} (hg : l[i]? = some g) : cur.extract (o + i * 7) (o + i * 7 + 7) = gtA g := by
  have hf := h.fit hg
  apply Array.ext_getElem?
  intro j
  rw [Array.getElem?_extract]
  split
  · rename_i hj
    have hj7 : j < 7 := by omega
    rw [h i g hg j hj7]
    match j, hj7 with
    | 0, _ => rfl
    | 1, _ => rfl
    | 2, _ => rfl
    | 3, _ => rfl
    | 4, _ => rfl
    | 5, _ => rfl
    | 6, _ => rfl
  · rename_i hj
    rw [Array.getElem?_eq_none]
    unfold gtA; simp; omega
theorem GtIn.set {l : List Gt} {o : Nat} {cur : Array Value} (h : GtIn l o cur) {i : Nat} {g g' : Gt} (hg : l[i]? = some g) (hu : g'.u = g.u) (hv : g'.v = g.v) (hr : g'.rope = g.rope) (he : g'.eats = g.eats) (hl : g'.likes = g.likes) : GtIn (l.set i g') o (splice cur (o + i * 7) #[.int .i8 g'.x, .int .i8 g'.y]) := fun k d hd j hj => by
  have hf := h.fit hg
  rw [splice_get _ _ _ (by simp; omega)]
  by_cases e : k = i
  · subst e
    have hlt := (List.getElem?_eq_some_iff.1 hg).1
    rw [List.getElem?_set_self hlt] at hd
    injection hd with hd; subst hd
    have hj' := h k g hg j hj
    split
    · rename_i hjj
      have : j < 2 := by simp at hjj; omega
      match j, this with
      | 0, _ => simp [Gt.cells, Nat.add_sub_cancel_left]
      | 1, _ =>
        have e1 : o + k * 7 + 1 - (o + k * 7) = 1 := by omega
        rw [e1]; rfl
    · rename_i hjj
      have h2 : ¬ j < 2 := by simp at hjj; omega
      rw [hj']
      match j, hj, h2 with
      | 2, _, _ => simp [Gt.cells, hu]
      | 3, _, _ => simp [Gt.cells, hv]
      | 4, _, _ => simp [Gt.cells, hr]
      | 5, _, _ => simp [Gt.cells, he]
      | 6, _, _ => simp [Gt.cells, hl]
  · rw [List.getElem?_set_ne (fun e2 => e e2.symm)] at hd
    rw [if_neg]
    · exact h k d hd j hj
    · simp
      intro h1
      have : k < i ∨ i < k := by omega
      rcases this with h2 | h2
      · have := Nat.mul_le_mul_right 7 (show k + 1 ≤ i by omega); rw [Nat.succ_mul] at this; omega
      · have := Nat.mul_le_mul_right 7 (show i + 1 ≤ k by omega); rw [Nat.succ_mul] at this; omega
theorem bitG_tail (p : Nat → Int) (g : Gt) (h : Int) : (bitG p g h).u = g.u ∧ (bitG p g h).v = g.v ∧ (bitG p g h).rope = g.rope ∧ (bitG p g h).eats = g.eats ∧ (bitG p g h).likes = g.likes := by
  unfold bitG; split <;> exact ⟨rfl, rfl, rfl, rfl, rfl⟩
end Go.Proofs.Ytpifngdmlmfnhaa
/- A region that draws its order: operations that are calm whatever the others do, and effects (stores into blocks of the walk's own, calls that write, append) that wait for each other. Plain theorems; no condition. -/
namespace Go.Proofs.Ytpifngdmlmfnhaa.CalmE
set_option linter.unusedVariables false
set_option linter.unusedSimpArgs false
open Go Go.RowKit Mem Calm
/-- A plan: what a calm operation yields; what an effect may yield and leave. -/
abbrev Plan (α : Type) := Value ⊕ (Value → α → Prop)
def isE {α : Type} : Plan α → Bool
  | .inl _ => false
  | .inr _ => true
def Agree {α : Type} : List (Plan α) → List Bool → Prop
  | [], _ => True
  | .inl _ :: ps, _ :: bs => Agree ps bs
  | .inr _ :: ps, b :: bs => b = true ∧ Agree ps bs
  | _ :: _, [] => False
theorem Agree.get {α : Type} : ∀ {ps : List (Plan α)} {bs : List Bool}, Agree ps bs → ∀ (i : Nat), isE (ps.getD i (.inl undef)) = true → bs.getD i false = true
  | [], bs, _, i, h => by simp [isE] at h
  | .inl v :: ps, b :: bs, ha, 0, h => by simp [isE] at h
  | .inr v :: ps, b :: bs, ha, 0, h => by simpa using ha.1
  | .inl v :: ps, b :: bs, ha, i + 1, h => by simpa using Agree.get (ps := ps) (bs := bs) ha i (by simpa using h)
  | .inr v :: ps, b :: bs, ha, i + 1, h => by simpa using Agree.get (ps := ps) (bs := bs) ha.2 i (by simpa using h)
  | .inl v :: ps, [], ha, i, h => by cases ha
  | .inr v :: ps, [], ha, i, h => by cases ha
section
variable {P : Program} {ops : Array Oper} {md : Region.Mode} {α : Type} {Hd : α → World → Prop} {Nok : α → Prop} {pl : Nat → Plan α}
def effUpon (P : Program) (w : World) (R : Value → World → Prop) : Result Next → Prop
  | .ok (.value u) w' => R u w'
  | .ok .skip w' => R undef w'
  | .ok (.enter f args) w' => w' = w ∧ Calls P f args w (fun e w'' => ∃ v, e = .returned v ∧ R v w'')
  | _ => False
def effAt (P : Program) (o : Oper) (a : Act) (w : World) (R : Value → World → Prop) : Prop := effUpon P w R ((execOp a.eval o).run P w)
def pOp (P : Program) (Hd : α → World → Prop) (Nok : α → Prop) (o : Oper) (p : Plan α) (K : Act → α → Prop) (a : Act) (E : α) : Prop :=
  match p with
  | .inl v => (∀ E', Nok E' → ∀ w, Hd E' w → calmAt P o a w v) ∧ K (a.put o.dst v) E
  | .inr tr => (∀ w, Hd E w → effAt P o a w (fun v w' => ∃ E', tr v E' ∧ Hd E' w')) ∧ (∃ v E', tr v E') ∧ ∀ v E', tr v E' → Nok E' ∧ K (a.put o.dst v) E'
def cOp (P : Program) (ops : Array Oper) (Hd : α → World → Prop) (Nok : α → Prop) (pl : Nat → Plan α) (i : Nat) (K : Act → α → Prop) (a : Act) (E : α) : Prop :=
  match ops[i]? with
  | none => K a E
  | some o => if Region.wanted o (yielded ops a.tmps) then pOp P Hd Nok o (pl i) K a E else K (a.put o.dst undef) E
theorem pOp_mono {o : Oper} {p : Plan α} {a : Act} {E : α} {K K' : Act → α → Prop} (h : ∀ a E, K a E → K' a E) (hh : pOp P Hd Nok o p K a E) : pOp P Hd Nok o p K' a E := by
  match p with
  | .inl v => exact ⟨hh.1, h _ _ hh.2⟩
  | .inr tr => exact ⟨hh.1, hh.2.1, fun v E' ht => ⟨(hh.2.2 v E' ht).1, h _ _ (hh.2.2 v E' ht).2⟩⟩
theorem cOp_mono {i : Nat} {a : Act} {E : α} {K K' : Act → α → Prop} (h : ∀ a E, K a E → K' a E) (hh : cOp P ops Hd Nok pl i K a E) : cOp P ops Hd Nok pl i K' a E := by
  unfold cOp at *
  split
  · rename_i ho; simp only [ho] at hh; exact h _ _ hh
  · rename_i o ho
    simp only [ho] at hh
    split
    · rename_i hw; simp only [hw, if_true] at hh; exact pOp_mono h hh
    · rename_i hw; simp only [hw] at hh; exact h _ _ hh
def wpLex (P : Program) (ops : Array Oper) (Hd : α → World → Prop) (Nok : α → Prop) (pl : Nat → Plan α) (Q : Act → α → Prop) : List Oper → Nat → Act → α → Prop
  | [], _, a, E => Q a E
  | o :: rest, k, a, E => if Region.wanted o (yielded ops a.tmps) then pOp P Hd Nok o (pl k) (wpLex P ops Hd Nok pl Q rest (k + 1)) a E else wpLex P ops Hd Nok pl Q rest (k + 1) (a.put o.dst undef) E
def Clo (Hd : α → World → Prop) : Prop := ∀ E w w', Hd E w → Below w.heap.size w w' → Hd E w'
theorem wp_of_pOp {o : Oper} {p : Plan α} {a : Act} {E : α} {w : World} {K : Act → α → Prop} {K' : Act → World → Prop} {Q' : Exit → Act → World → Prop} (hcl : Clo Hd) (hE : Nok E) (hw : Hd E w)
    (h : ∀ a E w, Nok E → Hd E w → K a E → K' a w) (hh : pOp P Hd Nok o p K a E) : o.wp P a w K' Q' := by
  match p with
  | .inl v =>
    obtain ⟨h1, h2⟩ := hh
    have h3 := h1 E hE w hw
    unfold calmAt at h3
    unfold Oper.wp
    generalize (execOp a.eval o).run P w = r at *
    cases r with
    | ok n w' =>
      cases n <;> simp only [calmUpon] at h3 <;> simp only [Oper.upon]
      case value u => obtain ⟨rfl, rfl⟩ := h3; exact h _ _ _ hE hw h2
      case enter f args =>
        obtain ⟨rfl, hc⟩ := h3
        exact hc.mono fun e w'' ⟨he, hb⟩ => by subst he; exact h _ _ _ hE (hcl _ _ _ hw hb) h2
    | halt x w' => simp only [calmUpon] at h3
  | .inr tr =>
    obtain ⟨h1, _, h2⟩ := hh
    have h3 := h1 w hw
    unfold effAt at h3
    unfold Oper.wp
    generalize (execOp a.eval o).run P w = r at *
    cases r with
    | ok n w' =>
      cases n <;> simp only [effUpon] at h3 <;> simp only [Oper.upon]
      case value u => obtain ⟨E', ht, hR⟩ := h3; exact h _ _ _ (h2 _ _ ht).1 hR (h2 _ _ ht).2
      case skip => obtain ⟨E', ht, hR⟩ := h3; exact h _ _ _ (h2 _ _ ht).1 hR (h2 _ _ ht).2
      case enter f args =>
        obtain ⟨rfl, hc⟩ := h3
        exact hc.mono fun e w'' ⟨v, he, E', ht, hR⟩ => by subst he; exact h _ _ _ (h2 _ _ ht).1 hR (h2 _ _ ht).2
    | halt x w' => simp only [effUpon] at h3
theorem wpOp_of_cOp {i : Nat} {a : Act} {E : α} {w : World} {K : Act → α → Prop} {K' : Act → World → Prop} {Q' : Exit → Act → World → Prop} (hcl : Clo Hd) (hE : Nok E) (hw : Hd E w)
    (h : ∀ a E w, Nok E → Hd E w → K a E → K' a w) (hh : cOp P ops Hd Nok pl i K a E) : wpOp P ops Q' i K' a w := by
  unfold cOp at hh
  unfold wpOp
  split
  · rename_i ho; simp only [ho] at hh; exact h _ _ _ hE hw hh
  · rename_i o ho
    simp only [ho] at hh
    split
    · rename_i hwd; simp only [hwd, if_true] at hh; exact .inl (wp_of_pOp hcl hE hw h hh)
    · rename_i hwd; simp only [hwd] at hh; exact h _ _ _ hE hw hh
theorem effAt_put {oj : Oper} (hsj : ∀ cs b, oj.op ≠ .select cs b) {a : Act} {d : Option Tmp} {u : Value} {R : Value → World → Prop} (h : ∀ t, d = some t → t ∉ oj.looksAt ops) {w : World} : effAt P oj (a.put d u) w R = effAt P oj a w R := by
  unfold effAt; rw [execOp_put oj hsj a d u h]
theorem pOp_congr {o : Oper} {p : Plan α} {a : Act} {E : α} {K K' : Act → α → Prop} (h : ∀ u E, K (a.put o.dst u) E = K' (a.put o.dst u) E) : pOp P Hd Nok o p K a E = pOp P Hd Nok o p K' a E := by
  match p with
  | .inl v => simp only [pOp, h]
  | .inr vf => simp only [pOp, h]
theorem cOp_swap {i j : Nat} {oi oj : Oper} (hi : ops[i]? = some oi) (hj : ops[j]? = some oj) (hap : oi.apart ops oj = true) (hnot : isE (pl i) = false ∨ isE (pl j) = false)
    (hsi : ∀ cs b, oi.op ≠ .select cs b) (hsj : ∀ cs b, oj.op ≠ .select cs b) {K : Act → α → Prop} {a : Act} {E : α}
    (H : cOp P ops Hd Nok pl i (fun a1 E1 => cOp P ops Hd Nok pl j K a1 E1) a E) : cOp P ops Hd Nok pl j (fun a1 E1 => cOp P ops Hd Nok pl i K a1 E1) a E := by
  obtain ⟨h1, h2, h3⟩ := Oper.apart_spec hap
  have wj : ∀ a u, Region.wanted oj (yielded ops (Act.put a oi.dst u).tmps) = Region.wanted oj (yielded ops a.tmps) := fun a u => wanted_put oj a oi.dst u h1
  have wi : ∀ a u, Region.wanted oi (yielded ops (Act.put a oj.dst u).tmps) = Region.wanted oi (yielded ops a.tmps) := fun a u => wanted_put oi a oj.dst u h3
  have pc : ∀ (a : Act) (v u : Value), (a.put oi.dst v).put oj.dst u = (a.put oj.dst u).put oi.dst v := fun a v u => Act.put_comm a v u h2
  unfold cOp at H ⊢
  simp only [hi, hj] at H ⊢
  have cA1 : ∀ {K}, Region.wanted oj (yielded ops a.tmps) = true → pOp P Hd Nok oi (pl i) (fun a1 E1 => if Region.wanted oj (yielded ops a1.tmps) = true then pOp P Hd Nok oj (pl j) K a1 E1 else K (a1.put oj.dst undef) E1) a E = pOp P Hd Nok oi (pl i) (fun a1 E1 => pOp P Hd Nok oj (pl j) K a1 E1) a E := fun c => pOp_congr fun u E => by simp only [wj, c, if_true]
  have cA2 : ∀ {K}, ¬ Region.wanted oj (yielded ops a.tmps) = true → pOp P Hd Nok oi (pl i) (fun a1 E1 => if Region.wanted oj (yielded ops a1.tmps) = true then pOp P Hd Nok oj (pl j) K a1 E1 else K (a1.put oj.dst undef) E1) a E = pOp P Hd Nok oi (pl i) (fun a1 E1 => K (a1.put oj.dst undef) E1) a E := fun c => pOp_congr fun u E => by simp only [wj, c, if_false, Bool.false_eq_true]
  have cB1 : ∀ {K}, Region.wanted oi (yielded ops a.tmps) = true → pOp P Hd Nok oj (pl j) (fun a1 E1 => if Region.wanted oi (yielded ops a1.tmps) = true then pOp P Hd Nok oi (pl i) K a1 E1 else K (a1.put oi.dst undef) E1) a E = pOp P Hd Nok oj (pl j) (fun a1 E1 => pOp P Hd Nok oi (pl i) K a1 E1) a E := fun c => pOp_congr fun u E => by simp only [wi, c, if_true]
  have cB2 : ∀ {K}, ¬ Region.wanted oi (yielded ops a.tmps) = true → pOp P Hd Nok oj (pl j) (fun a1 E1 => if Region.wanted oi (yielded ops a1.tmps) = true then pOp P Hd Nok oi (pl i) K a1 E1 else K (a1.put oi.dst undef) E1) a E = pOp P Hd Nok oj (pl j) (fun a1 E1 => K (a1.put oi.dst undef) E1) a E := fun c => pOp_congr fun u E => by simp only [wi, c, if_false, Bool.false_eq_true]
  by_cases ci : Region.wanted oi (yielded ops a.tmps) = true <;> by_cases cj : Region.wanted oj (yielded ops a.tmps) = true
  · rw [if_pos ci, cA1 cj] at H; rw [if_pos cj, cB1 ci]
    clear cA1 cA2 cB1 cB2 wi wj
    generalize pl i = p at *
    generalize pl j = q at *
    match p, q with
    | .inl v, .inl u =>
      obtain ⟨a1, a2, a3⟩ := H
      exact ⟨fun E' hE' w hw => by have := a2 E' hE' w hw; rwa [calmAt_put hsj h1] at this, fun E' hE' w hw => by rw [calmAt_put hsi h3]; exact a1 E' hE' w hw, by rw [← pc]; exact a3⟩
    | .inl v, .inr tr =>
      obtain ⟨a1, a2, ex, a3⟩ := H
      exact ⟨fun w hw => by have := a2 w hw; rwa [effAt_put hsj h1] at this, ex, fun v' E' ht => ⟨(a3 v' E' ht).1, fun E' hE' w hw => by rw [calmAt_put hsi h3]; exact a1 E' hE' w hw, by rw [← pc]; exact (a3 v' E' ht).2⟩⟩
    | .inr tr, .inl u =>
      obtain ⟨a1, ⟨v0, E0, ht0⟩, a2⟩ := H
      exact ⟨fun E' hE' w hw => by have := (a2 v0 E0 ht0).2.1 E' hE' w hw; rwa [calmAt_put hsj h1] at this, fun w hw => by rw [effAt_put hsi h3]; exact a1 w hw, ⟨v0, E0, ht0⟩, fun v E' ht => ⟨(a2 v E' ht).1, by rw [← pc]; exact (a2 v E' ht).2.2⟩⟩
    | .inr tr, .inr ur =>
      rcases hnot with h | h
      · cases h
      · cases h
  · rw [if_pos ci, cA2 cj] at H; rw [if_neg cj, if_pos (by rw [wi]; exact ci)]
    clear cA1 cA2 cB1 cB2 wi wj
    generalize pl i = p at *
    match p with
    | .inl v => exact ⟨fun E' hE' w hw => by rw [calmAt_put hsi h3]; exact H.1 E' hE' w hw, by rw [← pc]; exact H.2⟩
    | .inr tr => exact ⟨fun w hw => by rw [effAt_put hsi h3]; exact H.1 w hw, H.2.1, fun v E' ht => ⟨(H.2.2 v E' ht).1, by rw [← pc]; exact (H.2.2 v E' ht).2⟩⟩
  · rw [if_neg ci, if_pos (by rw [wj]; exact cj)] at H; rw [if_pos cj, cB2 ci]
    clear cA1 cA2 cB1 cB2 wi wj
    generalize pl j = q at *
    match q with
    | .inl u => exact ⟨fun E' hE' w hw => by have := H.1 E' hE' w hw; rwa [calmAt_put hsj h1] at this, by show K _ _; rw [← pc]; exact H.2⟩
    | .inr tr => exact ⟨fun w hw => by have := H.1 w hw; rwa [effAt_put hsj h1] at this, H.2.1, fun v E' ht => ⟨(H.2.2 v E' ht).1, by show K _ _; rw [← pc]; exact (H.2.2 v E' ht).2⟩⟩
  · rw [if_neg ci, if_neg (by rw [wj]; exact cj)] at H; rw [if_neg cj, if_neg (by rw [wi]; exact ci)]
    rw [← pc]; exact H
/-- what is listed has its forerunners listed -/
def Cls (md : Region.Mode) (ops : Array Oper) (listed : Array Bool) : Prop := ∀ j oj, ops[j]? = some oj → listed.getD j false = true → ∀ e ∈ oj.after, Region.binds md e = true → listed.getD e.on false = true
theorem Cls.set {listed : Array Bool} {i : Nat} (h : Cls md ops listed) (hi : i ∈ Region.ready md ops listed) : Cls md ops (listed.setIfInBounds i true) := fun j oj hj hl e he hb => by
  obtain ⟨_, oi, hoi, hall⟩ := mem_ready.1 hi
  have hkeep : listed.getD e.on false = true → (listed.setIfInBounds i true).getD e.on false = true := fun h => by
    by_cases hij : i = e.on
    · subst hij
      have hlt : e.on < listed.size := by
        rcases Nat.lt_or_ge e.on listed.size with h' | h'
        · exact h'
        · simp [Array.getElem?_eq_none h'] at h
      simp [hlt]
    · rw [getD_set_ne false hij]; exact h
  by_cases hij : i = j
  · subst hij
    have : oj = oi := Option.some.inj (hj.symm.trans hoi)
    subst this
    have h1 := hall e he hb
    refine hkeep ?_
    rcases Nat.lt_or_ge e.on listed.size with h' | h'
    · simp [h'] at h1 ⊢; exact h1
    · simp [Array.getElem?_eq_none h'] at h1
  · rw [getD_set_ne false hij] at hl
    exact hkeep (h j oj hj hl e he hb)
def wpAnyE (P : Program) (md : Region.Mode) (ops : Array Oper) (Hd : α → World → Prop) (Nok : α → Prop) (pl : Nat → Plan α) (Q : Act → α → Prop) : Nat → Array Bool → Act → α → Prop
  | 0, listed, a, E => Region.ready md ops listed = [] ∧ Q a E
  | fuel + 1, listed, a, E =>
    (Region.ready md ops listed = [] → Q a E) ∧
    ∀ i ∈ Region.ready md ops listed, cOp P ops Hd Nok pl i (wpAnyE P md ops Hd Nok pl Q fuel (listed.setIfInBounds i true)) a E
theorem wpAny_of_calm {Q : Act → α → Prop} {Q' : Exit → Act → World → Prop} (hcl : Clo Hd) (hQ : ∀ a E w, Nok E → Hd E w → Q a E → Q' .normal a w) : ∀ (fuel : Nat) (listed : Array Bool) (a : Act) (E : α) (w : World), Nok E → Hd E w →
    wpAnyE P md ops Hd Nok pl Q fuel listed a E → wpAny P md ops Q' fuel listed a w
  | 0, _, _, _, _, hE, hw, h => ⟨h.1, hQ _ _ _ hE hw h.2⟩
  | fuel + 1, _, _, _, _, hE, hw, h => ⟨fun h0 => hQ _ _ _ hE hw (h.1 h0), fun i hi => wpOp_of_cOp hcl hE hw (fun a' E' w' hE' hw' => wpAny_of_calm hcl hQ fuel _ a' E' w' hE' hw') (h.2 i hi)⟩
theorem cOp_no {i : Nat} {oi : Oper} (hi : ops[i]? = some oi) (a : Act) (E : α) : ¬ cOp P ops Hd Nok pl i (fun _ _ => False) a E := by
  intro h
  unfold cOp at h
  simp only [hi] at h
  split at h
  · generalize pl i = p at h
    match p with
    | .inl v => exact h.2
    | .inr tr => obtain ⟨_, ⟨v, E', ht⟩, h⟩ := h; exact (h v E' ht).2
  · exact h
end
end Go.Proofs.Ytpifngdmlmfnhaa.CalmE
namespace Go.Proofs.Ytpifngdmlmfnhaa.Wk
set_option linter.unusedVariables false
set_option linter.unusedSimpArgs false
open Go Go.RowKit Mem Calm
variable {P : Program} {n : Nat} {O : List Nat} {w0 : World} {l : List (Nat × Value)} {N L : List (Nat × TypeId × Array Value)} {Q : Exit → Act → World → Prop} {ops : Array Oper} {o : Oper} {rest : List Oper} {k d : Nat} {v : Value} {x y : Operand} {Nok : List (Nat × TypeId × Array Value) → Prop} {pl : Nat → CalmE.Plan (List (Nat × TypeId × Array Value))}
end Go.Proofs.Ytpifngdmlmfnhaa.Wk
