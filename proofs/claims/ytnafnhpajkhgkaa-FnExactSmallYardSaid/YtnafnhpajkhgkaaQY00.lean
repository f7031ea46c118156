import Derived.Below
import Derived.Deep.Draws
import Derived.Still
/- A region that draws its order: calm operations (reads, sums, calls that only make memory), new blocks, and stores into them. One walk in the text's order serves every order. Plain theorems; no condition. -/
namespace Go.Proofs.Ytnafnhpajkhgkaa.Calm
open Go Go.RowKit

/-- What the blocks hold that the region itself has made. -/
abbrev Made := Nat → Option (TypeId × Array Value)
def upd (E : Made) (g : Nat) (x : TypeId × Array Value) : Made := fun k => if k = g then some x else E k
theorem upd_same (E : Made) (g : Nat) (x : TypeId × Array Value) : upd E g x g = some x := by simp [upd]
theorem upd_ne (E : Made) {g k : Nat} (x : TypeId × Array Value) (h : k ≠ g) : upd E g x k = E k := by simp [upd, h]
theorem upd_comm (E : Made) {g k : Nat} (x y : TypeId × Array Value) (h : k ≠ g) : upd (upd E g x) k y = upd (upd E k y) g x := by
  funext m
  by_cases h1 : m = k
  · subst h1; rw [upd_same, upd_ne _ _ h, upd_same]
  · rw [upd_ne _ _ h1]
    by_cases h2 : m = g
    · subst h2; rw [upd_same, upd_same]
    · rw [upd_ne _ _ h2, upd_ne _ _ h2, upd_ne _ _ h1]

structure Holds (B : Nat) (w0 : World) (E : Made) (w : World) : Prop where
  below : Below B w0 w
  has : ∀ g T cs, E g = some (T, cs) → B ≤ g ∧ w.heap[g]? = some (.cells cs T (0, 0))

/-- A plan: what an operation yields (calm); the type and cells of the block that it makes; what it stores. -/
abbrev Plan := Value ⊕ (Bool × TypeId × Array Value)

section
variable {P : Program} {ops : Array Oper} {md : Region.Mode} {B : Nat} {w0 : World} {pl : Nat → Plan}

def calmUpon (P : Program) (w : World) (v : Value) : Result Next → Prop
  | .ok (.value u) w' => w' = w ∧ u = v
  | .ok (.enter f args) w' => w' = w ∧ Calls P f args w (fun e w'' => e = .returned v ∧ Below w.heap.size w w'')
  | _ => False
def calmAt (P : Program) (o : Oper) (a : Act) (w : World) (v : Value) : Prop := calmUpon P w v ((execOp a.eval o).run P w)
def newAt (P : Program) (o : Oper) (a : Act) (w : World) (T : TypeId) (cs : Array Value) : Prop :=
  (execOp a.eval o).run P w = .ok (.value (.pointer (some ⟨w.heap.size, 0, none⟩))) (w.alloc (.cells cs T (0, 0)))
def putAt (P : Program) (o : Oper) (a : Act) (w : World) (g : Nat) (T : TypeId) (cs : Array Value) : Prop :=
  ∃ w', (execOp a.eval o).run P w = .ok .skip w' ∧ w'.heap[g]? = some (.cells cs T (0, 0)) ∧ (∀ k, k ≠ g → w'.heap[k]? = w.heap[k]?) ∧
    w'.heap.size = w.heap.size ∧ w'.os = w.os ∧ w'.tape = w.tape ∧ w'.output = w.output

/-- One operation that is wanted, by its plan. -/
def pOp (P : Program) (B : Nat) (w0 : World) (o : Oper) (p : Plan) (K : Act → Made → Prop) (a : Act) (E : Made) : Prop :=
  match p with
  | .inl v => (∀ w, Below B w0 w → calmAt P o a w v) ∧ K (a.put o.dst v) E
  | .inr (false, T, cs) => (∀ w, Below B w0 w → newAt P o a w T cs) ∧ ∀ g, B ≤ g → E g = none → K (a.put o.dst (.pointer (some ⟨g, 0, none⟩))) (upd E g (T, cs))
  | .inr (true, T, cs) => ∃ t p x g old, o.op = .store t p x ∧ a.eval p = .pointer (some ⟨g, 0, none⟩) ∧ E g = some (T, old) ∧
      (∀ w old, w.heap[g]? = some (.cells old T (0, 0)) → old.size = cs.size → putAt P o a w g T cs) ∧ old.size = cs.size ∧ K (a.put o.dst undef) (upd E g (T, cs))

def cOp (P : Program) (ops : Array Oper) (B : Nat) (w0 : World) (pl : Nat → Plan) (i : Nat) (K : Act → Made → Prop) (a : Act) (E : Made) : Prop :=
  match ops[i]? with
  | none => K a E
  | some o => if Region.wanted o (yielded ops a.tmps) then pOp P B w0 o (pl i) K a E else K (a.put o.dst undef) E

theorem pOp_mono {o : Oper} {p : Plan} {a : Act} {E : Made} {K K' : Act → Made → Prop} (h : ∀ a E, K a E → K' a E) (hh : pOp P B w0 o p K a E) : pOp P B w0 o p K' a E := by
  match p with
  | .inl v => exact ⟨hh.1, h _ _ hh.2⟩
  | .inr (false, T, cs) => exact ⟨hh.1, fun g h1 h2 => h _ _ (hh.2 g h1 h2)⟩
  | .inr (true, T, cs) =>
    obtain ⟨t, p, x, g, old, h0, hp, h1, h2, h3, h4⟩ := hh
    exact ⟨t, p, x, g, old, h0, hp, h1, h2, h3, h _ _ h4⟩
theorem cOp_mono {i : Nat} {a : Act} {E : Made} {K K' : Act → Made → Prop} (h : ∀ a E, K a E → K' a E) (hh : cOp P ops B w0 pl i K a E) : cOp P ops B w0 pl i K' a E := by
  unfold cOp at *
  split
  · rename_i ho; simp only [ho] at hh; exact h _ _ hh
  · rename_i o ho
    simp only [ho] at hh
    split
    · rename_i hw; simp only [hw, if_true] at hh; exact pOp_mono h hh
    · rename_i hw; simp only [hw] at hh; exact h _ _ hh

/-- THE TEXT's ORDER, from operation k on. -/
def wpLex (P : Program) (ops : Array Oper) (B : Nat) (w0 : World) (pl : Nat → Plan) (Q : Act → Made → Prop) : List Oper → Nat → Act → Made → Prop
  | [], _, a, E => Q a E
  | o :: rest, k, a, E => if Region.wanted o (yielded ops a.tmps) then pOp P B w0 o (pl k) (wpLex P ops B w0 pl Q rest (k + 1)) a E else wpLex P ops B w0 pl Q rest (k + 1) (a.put o.dst undef) E

def wpAnyC (P : Program) (md : Region.Mode) (ops : Array Oper) (B : Nat) (w0 : World) (pl : Nat → Plan) (Q : Act → Made → Prop) : Nat → Array Bool → Act → Made → Prop
  | 0, listed, a, E => Region.ready md ops listed = [] ∧ Q a E
  | fuel + 1, listed, a, E =>
    (Region.ready md ops listed = [] → Q a E) ∧
    ∀ i ∈ Region.ready md ops listed, cOp P ops B w0 pl i (wpAnyC P md ops B w0 pl Q fuel (listed.setIfInBounds i true)) a E

theorem Holds.ext {E : Made} {w w' : World} (h : Holds B w0 E w) (hb : Below w.heap.size w w') (hB : B ≤ w.heap.size) : Holds B w0 E w' :=
  ⟨h.below.trans (hb.mono hB), fun g T cs he => ⟨(h.has g T cs he).1, by
    rw [hb.block g (Array.getElem?_eq_some_iff.1 (h.has g T cs he).2).1]; exact (h.has g T cs he).2⟩⟩
theorem Holds.new {E : Made} {w : World} (h : Holds B w0 E w) (hB : B ≤ w.heap.size) (T : TypeId) (cs : Array Value) : Holds B w0 (upd E w.heap.size (T, cs)) (w.alloc (.cells cs T (0, 0))) := by
  refine ⟨h.below.alloc hB _, fun g T' cs' he => ?_⟩
  by_cases hg : g = w.heap.size
  · subst hg
    rw [upd_same] at he
    injection he with he
    injection he with h1 h2
    subst h1; subst h2
    exact ⟨hB, heap_alloc_new w _⟩
  · rw [upd_ne _ _ hg] at he
    obtain ⟨h1, h2⟩ := h.has g T' cs' he
    exact ⟨h1, by rw [Below.heap_alloc _ _ _ (Array.getElem?_eq_some_iff.1 h2).1]; exact h2⟩
theorem Holds.fresh {E : Made} {w : World} (h : Holds B w0 E w) : E w.heap.size = none := by
  cases he : E w.heap.size with
  | none => rfl
  | some x =>
    have := (Array.getElem?_eq_some_iff.1 (h.has _ x.1 x.2 he).2).1
    omega
theorem Holds.size {E : Made} {w : World} (h : Holds B w0 E w) (hB : B ≤ w0.heap.size) : B ≤ w.heap.size := Nat.le_trans hB h.below.size

theorem wp_of_pOp {o : Oper} {p : Plan} {a : Act} {E : Made} {w : World} {K : Act → Made → Prop} {K' : Act → World → Prop} {Q' : Exit → Act → World → Prop} (hB : B ≤ w0.heap.size) (hw : Holds B w0 E w)
    (h : ∀ a E w, Holds B w0 E w → K a E → K' a w) (hh : pOp P B w0 o p K a E) : o.wp P a w K' Q' := by
  match p with
  | .inl v =>
    obtain ⟨h1, h2⟩ := hh
    have h3 := h1 w hw.below
    unfold calmAt at h3
    unfold Oper.wp
    generalize (execOp a.eval o).run P w = r at *
    cases r with
    | ok n w' =>
      cases n <;> simp only [calmUpon] at h3 <;> simp only [Oper.upon]
      case value u => obtain ⟨rfl, rfl⟩ := h3; exact h _ _ _ hw h2
      case enter f args =>
        obtain ⟨rfl, hc⟩ := h3
        exact hc.mono fun e w'' ⟨he, hb⟩ => by subst he; exact h _ _ _ (hw.ext hb (hw.size hB)) h2
    | halt x w' => simp only [calmUpon] at h3
  | .inr (false, T, cs) =>
    obtain ⟨h1, h2⟩ := hh
    have h3 := h1 w hw.below
    unfold newAt at h3
    unfold Oper.wp
    rw [h3]
    exact h _ _ _ (hw.new (hw.size hB) T cs) (h2 _ (hw.size hB) hw.fresh)
  | .inr (true, T, cs) =>
    obtain ⟨_, _, _, g, old, _, _, h1, h2, h3, h4⟩ := hh
    obtain ⟨hg, hblk⟩ := hw.has g T old h1
    obtain ⟨w', hr, e1, e2, e3, e4, e5, e6⟩ := h2 w old hblk h3
    unfold Oper.wp
    rw [hr]
    refine h _ _ _ ⟨hw.below.trans ⟨e4, e5, e6, by omega, fun k hk => e2 k (by omega)⟩, fun k T' cs' he => ?_⟩ h4
    by_cases hk : k = g
    · subst hk
      rw [upd_same] at he
      injection he with he
      injection he with p1 p2
      subst p1; subst p2
      exact ⟨hg, e1⟩
    · rw [upd_ne _ _ hk] at he
      obtain ⟨q1, q2⟩ := hw.has k T' cs' he
      exact ⟨q1, by rw [e2 k hk]; exact q2⟩
theorem wpOp_of_cOp {i : Nat} {a : Act} {E : Made} {w : World} {K : Act → Made → Prop} {K' : Act → World → Prop} {Q' : Exit → Act → World → Prop} (hB : B ≤ w0.heap.size) (hw : Holds B w0 E w)
    (h : ∀ a E w, Holds B w0 E w → K a E → K' a w) (hh : cOp P ops B w0 pl i K a E) : wpOp P ops Q' i K' a w := by
  unfold cOp at hh
  unfold wpOp
  split
  · rename_i ho; simp only [ho] at hh; exact h _ _ _ hw hh
  · rename_i o ho
    simp only [ho] at hh
    split
    · rename_i hwd; simp only [hwd, if_true] at hh; exact .inl (wp_of_pOp hB hw h hh)
    · rename_i hwd; simp only [hwd] at hh; exact h _ _ _ hw hh
theorem wpAny_of_calm {Q : Act → Made → Prop} {Q' : Exit → Act → World → Prop} (hB : B ≤ w0.heap.size) (hQ : ∀ a E w, Holds B w0 E w → Q a E → Q' .normal a w) : ∀ (fuel : Nat) (listed : Array Bool) (a : Act) (E : Made) (w : World), Holds B w0 E w →
    wpAnyC P md ops B w0 pl Q fuel listed a E → wpAny P md ops Q' fuel listed a w
  | 0, _, _, _, _, hw, h => ⟨h.1, hQ _ _ _ hw h.2⟩
  | fuel + 1, _, _, _, _, hw, h => ⟨fun h0 => hQ _ _ _ hw (h.1 h0), fun i hi => wpOp_of_cOp hB hw (fun a' E' w' hw' => wpAny_of_calm hB hQ fuel _ a' E' w' hw') (h.2 i hi)⟩

/-- Only finitely many blocks are made. -/
def Bounded (E : Made) : Prop := ∃ N, ∀ g, N ≤ g → E g = none
theorem Bounded.upd {E : Made} (h : Bounded E) (g : Nat) (x : TypeId × Array Value) : Bounded (upd E g x) := by
  obtain ⟨N, hN⟩ := h
  exact ⟨max N (g + 1), fun k hk => by rw [upd_ne _ _ (by omega)]; exact hN k (by omega)⟩
theorem Bounded.fresh {E : Made} (h : Bounded E) (B n : Nat) : ∃ g, B ≤ g ∧ E g = none ∧ g ≠ n := by
  obtain ⟨N, hN⟩ := h
  exact ⟨max (max N B) (n + 1), by omega, hN _ (by omega), by omega⟩

def isStore (o : Oper) : Bool := match o.op with | .store .. => true | _ => false

theorem calmAt_put {oj : Oper} (hsj : ∀ cs b, oj.op ≠ .select cs b) {a : Act} {d : Option Tmp} {u v : Value} (h : ∀ t, d = some t → t ∉ oj.looksAt ops) {w : World} : calmAt P oj (a.put d u) w v = calmAt P oj a w v := by
  unfold calmAt; rw [execOp_put oj hsj a d u h]
theorem newAt_put {oj : Oper} (hsj : ∀ cs b, oj.op ≠ .select cs b) {a : Act} {d : Option Tmp} {u : Value} {T : TypeId} {cs : Array Value} (h : ∀ t, d = some t → t ∉ oj.looksAt ops) {w : World} : newAt P oj (a.put d u) w T cs = newAt P oj a w T cs := by
  unfold newAt; rw [execOp_put oj hsj a d u h]
theorem putAt_put {oj : Oper} (hsj : ∀ cs b, oj.op ≠ .select cs b) {a : Act} {d : Option Tmp} {u : Value} {g : Nat} {T : TypeId} {cs : Array Value} (h : ∀ t, d = some t → t ∉ oj.looksAt ops) {w : World} : putAt P oj (a.put d u) w g T cs = putAt P oj a w g T cs := by
  unfold putAt; rw [execOp_put oj hsj a d u h]
theorem eval_put_store {oj : Oper} {t : TypeId} {p x : Operand} (ho : oj.op = .store t p x) {a : Act} {d : Option Tmp} {u : Value} (h : ∀ t, d = some t → t ∉ oj.looksAt ops) : (a.put d u).eval p = a.eval p :=
  Act.eval_put fun t ht hp => h t ht (by subst hp; simp [Oper.looksAt, ho, Op.operands])

theorem pOp_congr {o : Oper} {p : Plan} {a : Act} {E : Made} {K K' : Act → Made → Prop} (h : ∀ u E, K (a.put o.dst u) E = K' (a.put o.dst u) E) : pOp P B w0 o p K a E = pOp P B w0 o p K' a E := by
  match p with
  | .inl v => simp only [pOp, h]
  | .inr (false, T, cs) => simp only [pOp, h]
  | .inr (true, T, cs) => simp only [pOp, h]
/-- Two operations that are apart, and not both stores, may come up in either order. -/
theorem cOp_swap {i j : Nat} {oi oj : Oper} (hi : ops[i]? = some oi) (hj : ops[j]? = some oj) (hap : oi.apart ops oj = true) (hnot : isStore oi = false ∨ isStore oj = false)
    (hsi : ∀ cs b, oi.op ≠ .select cs b) (hsj : ∀ cs b, oj.op ≠ .select cs b) {K : Act → Made → Prop} {a : Act} {E : Made} (hE : Bounded E)
    (H : cOp P ops B w0 pl i (fun a1 E1 => cOp P ops B w0 pl j K a1 E1) a E) : cOp P ops B w0 pl j (fun a1 E1 => cOp P ops B w0 pl i K a1 E1) a E := by
  obtain ⟨h1, h2, h3⟩ := Oper.apart_spec hap
  have wj : ∀ a u, Region.wanted oj (yielded ops (Act.put a oi.dst u).tmps) = Region.wanted oj (yielded ops a.tmps) := fun a u => wanted_put oj a oi.dst u h1
  have wi : ∀ a u, Region.wanted oi (yielded ops (Act.put a oj.dst u).tmps) = Region.wanted oi (yielded ops a.tmps) := fun a u => wanted_put oi a oj.dst u h3
  have pc : ∀ (a : Act) (v u : Value), (a.put oi.dst v).put oj.dst u = (a.put oj.dst u).put oi.dst v := fun a v u => Act.put_comm a v u h2
  unfold cOp at H ⊢
  simp only [hi, hj] at H ⊢
  have cA1 : ∀ {K}, Region.wanted oj (yielded ops a.tmps) = true → pOp P B w0 oi (pl i) (fun a1 E1 => if Region.wanted oj (yielded ops a1.tmps) = true then pOp P B w0 oj (pl j) K a1 E1 else K (a1.put oj.dst undef) E1) a E = pOp P B w0 oi (pl i) (fun a1 E1 => pOp P B w0 oj (pl j) K a1 E1) a E := fun c => pOp_congr fun u E => by simp only [wj, c, if_true]
  have cA2 : ∀ {K}, ¬ Region.wanted oj (yielded ops a.tmps) = true → pOp P B w0 oi (pl i) (fun a1 E1 => if Region.wanted oj (yielded ops a1.tmps) = true then pOp P B w0 oj (pl j) K a1 E1 else K (a1.put oj.dst undef) E1) a E = pOp P B w0 oi (pl i) (fun a1 E1 => K (a1.put oj.dst undef) E1) a E := fun c => pOp_congr fun u E => by simp only [wj, c, if_false, Bool.false_eq_true]
  have cB1 : ∀ {K}, Region.wanted oi (yielded ops a.tmps) = true → pOp P B w0 oj (pl j) (fun a1 E1 => if Region.wanted oi (yielded ops a1.tmps) = true then pOp P B w0 oi (pl i) K a1 E1 else K (a1.put oi.dst undef) E1) a E = pOp P B w0 oj (pl j) (fun a1 E1 => pOp P B w0 oi (pl i) K a1 E1) a E := fun c => pOp_congr fun u E => by simp only [wi, c, if_true]
  have cB2 : ∀ {K}, ¬ Region.wanted oi (yielded ops a.tmps) = true → pOp P B w0 oj (pl j) (fun a1 E1 => if Region.wanted oi (yielded ops a1.tmps) = true then pOp P B w0 oi (pl i) K a1 E1 else K (a1.put oi.dst undef) E1) a E = pOp P B w0 oj (pl j) (fun a1 E1 => K (a1.put oi.dst undef) E1) a E := fun c => pOp_congr fun u E => by simp only [wi, c, if_false, Bool.false_eq_true]
  by_cases ci : Region.wanted oi (yielded ops a.tmps) = true <;> by_cases cj : Region.wanted oj (yielded ops a.tmps) = true
  · rw [if_pos ci, cA1 cj] at H; rw [if_pos cj, cB1 ci]
    clear cA1 cA2 cB1 cB2 wi wj
    generalize pl i = p at *
    generalize pl j = q at *
    match p, q with
    | .inl v, .inl u =>
      obtain ⟨a1, a2, a3⟩ := H
      exact ⟨fun w hw => by have := a2 w hw; rwa [calmAt_put hsj h1] at this, fun w hw => by rw [calmAt_put hsi h3]; exact a1 w hw, by rw [← pc]; exact a3⟩
    | .inl v, .inr (false, T, cs) =>
      obtain ⟨a1, a2, a3⟩ := H
      exact ⟨fun w hw => by have := a2 w hw; rwa [newAt_put hsj h1] at this, fun g g1 g2 => ⟨fun w hw => by rw [calmAt_put hsi h3]; exact a1 w hw, by rw [← pc]; exact a3 g g1 g2⟩⟩
    | .inl v, .inr (true, T, cs) =>
      obtain ⟨a1, t, p, x, g, old, b0, b1, b2, b3, b4, b5⟩ := H
      exact ⟨t, p, x, g, old, b0, by rwa [eval_put_store b0 h1] at b1, b2, fun w old e1 e2 => by have := b3 w old e1 e2; rwa [putAt_put hsj h1] at this, b4, fun w hw => by rw [calmAt_put hsi h3]; exact a1 w hw, by rw [← pc]; exact b5⟩
    | .inr (false, T, cs), .inl u =>
      obtain ⟨a1, a2⟩ := H
      obtain ⟨g0, f1, f2, _⟩ := hE.fresh B 0
      refine ⟨fun w hw => by have := (a2 g0 f1 f2).1 w hw; rwa [calmAt_put hsj h1] at this, fun w hw => by rw [newAt_put hsi h3]; exact a1 w hw, fun g g1 g2 => by rw [← pc]; exact (a2 g g1 g2).2⟩
    | .inr (false, T, cs), .inr (false, T', cs') =>
      obtain ⟨a1, a2⟩ := H
      obtain ⟨g0, f1, f2, _⟩ := hE.fresh B 0
      refine ⟨fun w hw => by have := (a2 g0 f1 f2).1 w hw; rwa [newAt_put hsj h1] at this, fun g' g1' g2' => ⟨fun w hw => by rw [newAt_put hsi h3]; exact a1 w hw, fun g g1 g2 => ?_⟩⟩
      have hne : g ≠ g' := fun e => by subst e; rw [upd_same] at g2; cases g2
      rw [upd_ne _ _ hne] at g2
      rw [← pc, upd_comm _ _ _ hne]
      exact (a2 g g1 g2).2 g' g1' (by rw [upd_ne _ _ (Ne.symm hne)]; exact g2')
    | .inr (false, T, cs), .inr (true, T', cs') =>
      obtain ⟨a1, a2⟩ := H
      obtain ⟨g0, f1, f2, _⟩ := hE.fresh B 0
      obtain ⟨t, p, x, G, old, b0, b1, b2, b3, b4, b5⟩ := a2 g0 f1 f2
      rw [eval_put_store b0 h1] at b1
      obtain ⟨g1, f3, f4, f5⟩ := hE.fresh B G
      have key : ∀ g, B ≤ g → E g = none → ∃ old, upd E g (T, cs) G = some (T', old) ∧ (∀ w old, w.heap[G]? = some (.cells old T' (0, 0)) → old.size = cs'.size → putAt P oj a w G T' cs') ∧ old.size = cs'.size ∧ K ((a.put oi.dst (.pointer (some ⟨g, 0, none⟩))).put oj.dst undef) (upd (upd E g (T, cs)) G (T', cs')) := by
        intro g q1 q2
        obtain ⟨t', p', x', G', old', c0, c1, c2, c3, c4, c5⟩ := a2 g q1 q2
        rw [eval_put_store c0 h1] at c1
        rw [b0] at c0
        injection c0 with e1 e2 e3
        subst e2
        rw [b1] at c1
        injection c1 with c1
        injection c1 with c1
        injection c1 with c1
        subst c1
        exact ⟨old', c2, fun w old e1 e2 => by have := c3 w old e1 e2; rwa [putAt_put hsj h1] at this, c4, c5⟩
      obtain ⟨oldG, d1, d2, d3, _⟩ := key g1 f3 f4
      rw [upd_ne _ _ (Ne.symm f5)] at d1
      refine ⟨t, p, x, G, oldG, b0, b1, d1, d2, d3, fun w hw => by rw [newAt_put hsi h3]; exact a1 w hw, fun g q1 q2 => ?_⟩
      have hne : g ≠ G := fun e => by subst e; rw [upd_same] at q2; cases q2
      rw [upd_ne _ _ hne] at q2
      obtain ⟨_, _, _, _, r⟩ := key g q1 q2
      rw [← pc, upd_comm _ _ _ hne]
      exact r
    | .inr (true, T, cs), .inl u =>
      obtain ⟨t, p, x, g, old, b0, b1, b2, b3, b4, a2, a3⟩ := H
      exact ⟨fun w hw => by have := a2 w hw; rwa [calmAt_put hsj h1] at this, t, p, x, g, old, b0, by rw [eval_put_store b0 h3]; exact b1, b2, fun w old e1 e2 => by rw [putAt_put hsi h3]; exact b3 w old e1 e2, b4, by rw [← pc]; exact a3⟩
    | .inr (true, T, cs), .inr (false, T', cs') =>
      obtain ⟨t, p, x, G, old, b0, b1, b2, b3, b4, a2, a3⟩ := H
      refine ⟨fun w hw => by have := a2 w hw; rwa [newAt_put hsj h1] at this, fun g q1 q2 => ?_⟩
      have hne : G ≠ g := fun e => by subst e; rw [b2] at q2; cases q2
      refine ⟨t, p, x, G, old, b0, by rw [eval_put_store b0 h3]; exact b1, by rw [upd_ne _ _ hne]; exact b2, fun w old e1 e2 => by rw [putAt_put hsi h3]; exact b3 w old e1 e2, b4, ?_⟩
      rw [← pc, upd_comm _ _ _ hne]
      exact a3 g q1 (by rw [upd_ne _ _ (Ne.symm hne)]; exact q2)
    | .inr (true, T, cs), .inr (true, T', cs') =>
      obtain ⟨t, p, x, G, old, b0, b1, b2, b3, b4, t', p', x', G', old', c0, _⟩ := H
      rcases hnot with h | h
      · simp [isStore, b0] at h
      · simp [isStore, c0] at h
  · rw [if_pos ci, cA2 cj] at H; rw [if_neg cj, if_pos (by rw [wi]; exact ci)]
    clear cA1 cA2 cB1 cB2 wi wj
    generalize pl i = p at *
    match p with
    | .inl v => exact ⟨fun w hw => by rw [calmAt_put hsi h3]; exact H.1 w hw, by rw [← pc]; exact H.2⟩
    | .inr (false, T, cs) => exact ⟨fun w hw => by rw [newAt_put hsi h3]; exact H.1 w hw, fun g g1 g2 => by rw [← pc]; exact H.2 g g1 g2⟩
    | .inr (true, T, cs) =>
      obtain ⟨t, p, x, g, old, b0, b1, b2, b3, b4, b5⟩ := H
      exact ⟨t, p, x, g, old, b0, by rw [eval_put_store b0 h3]; exact b1, b2, fun w old e1 e2 => by rw [putAt_put hsi h3]; exact b3 w old e1 e2, b4, by rw [← pc]; exact b5⟩
  · rw [if_neg ci, if_pos (by rw [wj]; exact cj)] at H; rw [if_pos cj, cB2 ci]
    clear cA1 cA2 cB1 cB2 wi wj
    generalize pl j = q at *
    match q with
    | .inl u => exact ⟨fun w hw => by have := H.1 w hw; rwa [calmAt_put hsj h1] at this, by show K _ _; rw [← pc]; exact H.2⟩
    | .inr (false, T, cs) => exact ⟨fun w hw => by have := H.1 w hw; rwa [newAt_put hsj h1] at this, fun g g1 g2 => by show K _ _; rw [← pc]; exact H.2 g g1 g2⟩
    | .inr (true, T, cs) =>
      obtain ⟨t, p, x, g, old, b0, b1, b2, b3, b4, b5⟩ := H
      exact ⟨t, p, x, g, old, b0, by rwa [eval_put_store b0 h1] at b1, b2, fun w old e1 e2 => by have := b3 w old e1 e2; rwa [putAt_put hsj h1] at this, b4, by show K _ _; rw [← pc]; exact b5⟩
  · rw [if_neg ci, if_neg (by rw [wj]; exact cj)] at H; rw [if_neg cj, if_neg (by rw [wi]; exact ci)]
    rw [← pc]; exact H

/-- Stores wait for stores. -/
def storesB (md : Region.Mode) (ops : Array Oper) : Bool := (List.range ops.size).all fun j => match ops[j]? with
  | none => true
  | some oj => !isStore oj || (List.range j).all fun i => match ops[i]? with
    | none => true
    | some oi => !isStore oi || oj.after.any (fun e => Region.binds md e && e.on == i)
theorem storesB_spec (h : storesB md ops = true) {i j : Nat} {oi oj : Oper} (hi : ops[i]? = some oi) (hj : ops[j]? = some oj) (hlt : i < j) (si : isStore oi = true) (sj : isStore oj = true) :
    ∃ e ∈ oj.after, Region.binds md e = true ∧ e.on = i := by
  simp only [storesB, List.all_eq_true, List.mem_range] at h
  have h1 := h j (Array.getElem?_eq_some_iff.1 hj).1
  simp only [hj, sj, Bool.not_true, Bool.false_or, List.all_eq_true, List.mem_range] at h1
  have h2 := h1 i hlt
  simp only [hi, si, Bool.not_true, Bool.false_or, Array.any_eq_true', Bool.and_eq_true, beq_iff_eq] at h2
  exact h2

theorem pOp_mono_bounded {o : Oper} {p : Plan} {a : Act} {E : Made} {K K' : Act → Made → Prop} (hE : Bounded E) (h : ∀ a E, Bounded E → K a E → K' a E) (hh : pOp P B w0 o p K a E) : pOp P B w0 o p K' a E := by
  match p with
  | .inl v => exact ⟨hh.1, h _ _ hE hh.2⟩
  | .inr (false, T, cs) => exact ⟨hh.1, fun g h1 h2 => h _ _ (hE.upd _ _) (hh.2 g h1 h2)⟩
  | .inr (true, T, cs) =>
    obtain ⟨t, p, x, g, old, h0, hp, h1, h2, h3, h4⟩ := hh
    exact ⟨t, p, x, g, old, h0, hp, h1, h2, h3, h _ _ (hE.upd _ _) h4⟩
theorem cOp_mono_bounded {i : Nat} {a : Act} {E : Made} {K K' : Act → Made → Prop} (hE : Bounded E) (h : ∀ a E, Bounded E → K a E → K' a E) (hh : cOp P ops B w0 pl i K a E) : cOp P ops B w0 pl i K' a E := by
  unfold cOp at *
  split
  · rename_i ho; simp only [ho] at hh; exact h _ _ hE hh
  · rename_i o ho
    simp only [ho] at hh
    split
    · rename_i hw; simp only [hw, if_true] at hh; exact pOp_mono_bounded hE h hh
    · rename_i hw; simp only [hw] at hh; exact h _ _ hE hh

theorem wpAnyC_first {Q : Act → Made → Prop} {i : Nat} {oi : Oper} (hi : ops[i]? = some oi) (hsel : ∀ (j : Nat) (o : Oper) cs b, ops[j]? = some o → o.op ≠ .select cs b) :
    ∀ (fuel : Nat) (listed : Array Bool) (a : Act) (E : Made), Bounded E →
      (∀ j oj, ops[j]? = some oj → j ≠ i → listed.getD j true = false → (∀ e ∈ oj.after, Region.binds md e = true → e.on ≠ i) → oi.apart ops oj = true ∧ (isStore oi = false ∨ isStore oj = false)) →
      i ∈ Region.ready md ops listed → cOp P ops B w0 pl i (wpAnyC P md ops B w0 pl Q fuel (listed.setIfInBounds i true)) a E →
      wpAnyC P md ops B w0 pl Q (fuel + 1) listed a E := by
  intro fuel
  induction fuel with
  | zero =>
    intro listed a E hE hfree hr H
    refine ⟨fun h => (by rw [h] at hr; cases hr), fun j hj => ?_⟩
    by_cases hji : j = i
    · subst hji; exact H
    · exfalso
      have hm := ready_mono hj hji
      have : cOp P ops B w0 pl i (fun _ _ => False) a E := cOp_mono (fun a E h => by rw [h.1] at hm; cases hm) H
      have hno : ∀ (a : Act) (E : Made), Bounded E → ¬ cOp P ops B w0 pl i (fun _ _ => False) a E := by
        intro a E hE h
        unfold cOp at h
        simp only [hi] at h
        split at h
        · generalize pl i = p at h
          match p with
          | .inl v => exact h.2
          | .inr (false, T, cs) => obtain ⟨g, g1, g2, _⟩ := hE.fresh B 0; exact h.2 g g1 g2
          | .inr (true, T, cs) => obtain ⟨_, _, _, _, _, _, _, _, _, _, h⟩ := h; exact h
        · exact h
      exact hno a E hE this
  | succ fuel ih =>
    intro listed a E hE hfree hr H
    refine ⟨fun h => (by rw [h] at hr; cases hr), fun j hj => ?_⟩
    by_cases hji : j = i
    · subst hji; exact H
    · obtain ⟨hjun, oj, hoj, hall⟩ := mem_ready.1 hj
      have hnot : ∀ e ∈ oj.after, Region.binds md e = true → e.on ≠ i := fun e he hb heq => by
        have h1 := hall e he hb
        have h0 := (mem_ready.1 hr).1
        rw [heq] at h1
        rcases Nat.lt_or_ge i listed.size with h' | h'
        · simp [h'] at h0 h1; rw [h0] at h1; cases h1
        · simp [Array.getElem?_eq_none h'] at h1
      obtain ⟨hap, hst⟩ := hfree j oj hoj hji hjun hnot
      have h1 := cOp_mono (K' := fun a1 E1 => cOp P ops B w0 pl j (wpAnyC P md ops B w0 pl Q fuel ((listed.setIfInBounds i true).setIfInBounds j true)) a1 E1) (fun a E h => h.2 j (ready_mono hj hji)) H
      have h2 := cOp_swap hi hoj hap hst (fun cs b => hsel i oi cs b hi) (fun cs b => hsel j oj cs b hoj) hE h1
      refine cOp_mono_bounded hE (fun a' E' hE' h3 => ih (listed.setIfInBounds j true) a' E' hE' ?_ (ready_mono hr (Ne.symm hji)) ?_) h2
      · intro k ok hk hki hun hno
        refine hfree k ok hk hki ?_ hno
        by_cases hjk : j = k
        · subst hjk; exact hjun
        · rw [getD_set_ne true hjk] at hun; exact hun
      · rw [Array.setIfInBounds_comm _ _ hji]
        exact h3

theorem wpAnyC_lex {Q : Act → Made → Prop} (hs : Region.noSelect ops = true) (hst : storesB md ops = true) : ∀ (l : List Oper) (k : Nat) (listed : Array Bool) (a : Act) (E : Made), Bounded E → (∀ j, l[j]? = ops[k + j]?) → (∀ j, j < k → listed.getD j true = true) →
    Region.lexFrom md ops l.length k listed = true → wpLex P ops B w0 pl Q l k a E → wpAnyC P md ops B w0 pl Q l.length listed a E
  | [], _, _, _, _, _, _, _, hB, h => ⟨by simpa [Region.lexFrom] using hB, h⟩
  | o :: l, k, listed, a, E, hE, hl, hk, hB, h => by
    have h0 : ops[k]? = some o := by simpa using (hl 0).symm
    simp only [List.length_cons, Region.lexFrom, Bool.and_eq_true] at hB
    obtain ⟨⟨hr, hf⟩, hB'⟩ := hB
    have hC : cOp P ops B w0 pl k (wpLex P ops B w0 pl Q l (k + 1)) a E := by unfold cOp; simp only [h0]; exact h
    refine wpAnyC_first h0 (Region.noSelect_spec hs) l.length listed a E hE (fun j oj hj hne hun hno => ⟨Region.free_spec h0 hf j oj hj hne hun hno, ?_⟩) (by simpa using hr) ?_
    · cases hso : isStore o with
      | false => exact .inl rfl
      | true =>
        cases hsj : isStore oj with
        | false => exact .inr rfl
        | true =>
          exfalso
          have hgt : k < j := by
            rcases Nat.lt_or_ge j k with h' | h'
            · rw [hk j h'] at hun; cases hun
            · omega
          obtain ⟨e, he, hb, heq⟩ := storesB_spec hst h0 hj hgt hso hsj
          exact hno e he hb heq
    · refine cOp_mono_bounded hE (fun a' E' hE' h' => wpAnyC_lex hs hst l (k + 1) _ a' E' hE' (fun j => by have := hl (j + 1); simpa [Nat.add_assoc, Nat.add_comm 1 j] using this) (fun j hj => ?_) hB' h') hC
      by_cases hjk : j = k
      · subst hjk
        have hlt : j < listed.size := by
          rcases Nat.lt_or_ge j listed.size with h' | h'
          · exact h'
          · have := mem_ready.1 (by simpa using hr : j ∈ Region.ready md ops listed)
            simp [Array.getElem?_eq_none h'] at this
        simp [hlt]
      · rw [getD_set_ne true (Ne.symm hjk)]; exact hk j (by omega)

/-- THE REGION: one walk in the text's order. Behind it: a world in which what stood below is as it was and the new blocks hold what was laid. -/
theorem wp_region_calm {id : Nat} {Q : Exit → Act → World → Prop} {a : Act} {w : World} (pl : List Plan) (hm : P.follows .mixedOrders = true) (hB : Region.lexB .any ops = true) (hst : storesB .any ops = true)
    (h : wpLex P ops w.heap.size w (fun i => pl.getD i (.inl undef)) (fun a' E => ∀ w', Holds w.heap.size w E w' → Q .normal a' w') ops.toList 0 a (fun _ => none)) : (Code.region id ops true).wp P Q a w := by
  simp only [Region.lexB, Bool.and_eq_true] at hB
  refine wp_region_any hm (wpAny_of_calm (B := w.heap.size) (w0 := w) (pl := fun i => pl.getD i (.inl undef)) (Q := fun a' E => ∀ w', Holds w.heap.size w E w' → Q .normal a' w') (E := fun _ => none) (Nat.le_refl _) (fun _ _ w' hw' h => h w' hw') _ _ _ _ ?_ ?_)
  · exact ⟨⟨rfl, rfl, rfl, Nat.le_refl _, fun _ _ => rfl⟩, fun _ _ _ h => by cases h⟩
  · have := wpAnyC_lex (P := P) (B := w.heap.size) (w0 := w) (pl := fun i => pl.getD i (.inl undef)) (md := .any) hB.1 hst ops.toList 0 (Array.replicate ops.size false) a (fun _ => none) ⟨0, fun _ _ => rfl⟩ (by simp) (fun j hj => by omega) (by simpa using hB.2) h
    simpa using this
theorem wp_region_calm_lit {id : Nat} {Q : Exit → Act → World → Prop} {a : Act} {w : World} {l : List Oper} (pl : List Plan) (hm : P.follows .mixedOrders = true) (hB : Region.lexB .any l.toArray = true) (hst : storesB .any l.toArray = true)
    (h : wpLex P l.toArray w.heap.size w (fun i => pl.getD i (.inl undef)) (fun a' E => ∀ w', Holds w.heap.size w E w' → Q .normal a' w') l 0 a (fun _ => none)) : (Code.region id l.toArray true).wp P Q a w :=
  wp_region_calm pl hm hB hst (by simpa using h)
end
end Go.Proofs.Ytnafnhpajkhgkaa.Calm
