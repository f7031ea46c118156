import Derived.Sort.Grow
import Derived.Test.YtnafnhpajkhgkaaQY13
import Derived.Test.YtnafnhpajkhgkaaQY14
import Derived.Test.YtnafnhpajkhgkaaQY16
import Derived.Test.YtnafnhpajkhgkaaQY21
import Derived.Test.YtnafnhpajkhgkaaQY30
/- As the law of a region that draws its order, with callees that make slices and callees that read these; it tells also that the count of draws does not fall. Plain theorems; no condition. -/
namespace Go.Proofs.Ytnafnhpajkhgkaa.CalmBD
open Go Go.RowKit Calm Mem
set_option linter.unusedVariables false
set_option linter.unusedSimpArgs false

/-- Below, and the count of draws does not fall. -/
structure BelowD (B : Nat) (w w' : World) : Prop where
  below : Below B w w'
  drawn : w.drawn ≤ w'.drawn
theorem BelowD.size {B : Nat} {w w' : World} (h : BelowD B w w') : w.heap.size ≤ w'.heap.size := h.below.size
theorem BelowD.block {B : Nat} {w w' : World} (h : BelowD B w w') : ∀ k, k < B → w'.heap[k]? = w.heap[k]? := h.below.block
theorem BelowD.trans {B : Nat} {a b c : World} (h : BelowD B a b) (k : BelowD B b c) : BelowD B a c := ⟨h.below.trans k.below, Nat.le_trans h.drawn k.drawn⟩
theorem BelowD.mono {B B' : Nat} {w w' : World} (h : BelowD B w w') (hB : B' ≤ B) : BelowD B' w w' := ⟨h.below.mono hB, h.drawn⟩
theorem BelowD.alloc {B : Nat} {a w : World} (h : BelowD B a w) (hB : B ≤ w.heap.size) (o : Obj) : BelowD B a (w.alloc o) := ⟨h.below.alloc hB o, h.drawn⟩
/-- what the sort asks for -/
theorem BelowD.grow {w w' : World} (h : BelowD w.heap.size w w') : ∃ q os', w' = Go.Sort.grow (w.drewN q) os' := by
  obtain ⟨⟨h1, h2, h3, h4, h5⟩, h6⟩ := h
  refine ⟨w'.drawn - w.drawn, w'.heap.extract w.heap.size w'.heap.size, ?_⟩
  obtain ⟨hp, tp, dr, os, out⟩ := w
  obtain ⟨hp', tp', dr', os', out'⟩ := w'
  simp only at h1 h2 h3 h4 h5 h6
  subst h1; subst h2; subst h3
  unfold Go.Sort.grow World.drewN
  simp only
  congr 1
  · apply Array.ext_getElem?
    intro k
    by_cases hk : k < hp.size
    · rw [Array.getElem?_append_left hk, h5 k hk]
    · rw [Array.getElem?_append_right (by omega), Array.getElem?_extract]
      by_cases hk' : k < hp'.size
      · rw [if_pos (by omega)]; congr 1; omega
      · rw [if_neg (by omega), Array.getElem?_eq_none (by omega)]
  · omega
theorem BelowD.of_grow {w : World} (q : Nat) (os : Array Obj) : BelowD w.heap.size w (Go.Sort.grow (w.drewN q) os) :=
  ⟨⟨rfl, rfl, rfl, by show _ ≤ (w.heap ++ os).size; simp, fun k hk => by show (w.heap ++ os)[k]? = _; rw [Array.getElem?_append_left hk]⟩, Nat.le_add_right _ _⟩
structure Holds (B : Nat) (w0 : World) (E : Made) (w : World) : Prop where
  below : BelowD B w0 w
  has : ∀ g T cs, E g = some (T, cs) → B ≤ g ∧ w.heap[g]? = some (.cells cs T (0, 0))
section
variable {P : Program} {ops : Array Oper} {md : Region.Mode} {B : Nat} {w0 : World}
def calmUpon (P : Program) (w : World) (v : Value) : Result Next → Prop
  | .ok (.value u) w' => w' = w ∧ u = v
  | .ok (.enter f args) w' => w' = w ∧ Calls P f args w (fun e w'' => e = .returned v ∧ BelowD w.heap.size w w'')
  | _ => False

def calmAt (P : Program) (o : Oper) (a : Act) (w : World) (v : Value) : Prop := calmUpon P w v ((execOp a.eval o).run P w)

theorem Holds.ext {E : Made} {w w' : World} (h : Holds B w0 E w) (hb : BelowD w.heap.size w w') (hB : B ≤ w.heap.size) : Holds B w0 E w' :=
  ⟨h.below.trans (hb.mono hB), fun g T cs he => ⟨(h.has g T cs he).1, by
    rw [hb.block g (Array.getElem?_eq_some_iff.1 (h.has g T cs he).2).1]; exact (h.has g T cs he).2⟩⟩

theorem Holds.size {E : Made} {w : World} (h : Holds B w0 E w) (hB : B ≤ w0.heap.size) : B ≤ w.heap.size := Nat.le_trans hB h.below.size


theorem calmAt_put {oj : Oper} (hsj : ∀ cs b, oj.op ≠ .select cs b) {a : Act} {d : Option Tmp} {u v : Value} (h : ∀ t, d = some t → t ∉ oj.looksAt ops) {w : World} : calmAt P oj (a.put d u) w v = calmAt P oj a w v := by
  unfold calmAt; rw [execOp_put oj hsj a d u h]

end
/-- A plan: what an operation yields; or what it may yield and which block it makes. -/
abbrev Plan := (Act → Value) ⊕ (Value → Nat → TypeId × Array Value → Prop)
section
variable {P : Program} {ops : Array Oper} {md : Region.Mode} {B : Nat} {w0 : World} {pl : Nat → Plan}
def Has (w : World) (r : Nat × TypeId × Array Value) : Prop := w.heap[r.1]? = some (.cells r.2.2 r.2.1 (0, 0))
def MentX (a : Act) (x : Operand) (g : Nat) : Prop := ∃ off k cap, a.eval x = .slice (some ⟨g, off, none⟩) k cap
def Ment (o : Oper) (a : Act) (g : Nat) : Prop := ∃ x ∈ o.op.operands.toList, MentX a x g
def mkUpon (P : Program) (w : World) (M : Value → Nat → TypeId × Array Value → Prop) : Result Next → Prop
  | .ok (.value u) w'' => ∃ g x, M u g x ∧ w.heap.size ≤ g ∧ Has w'' (g, x) ∧ BelowD w.heap.size w w''
  | .ok (.enter f args) w' => w' = w ∧ Calls P f args w (fun e w'' => ∃ u g x, M u g x ∧ e = .returned u ∧ w.heap.size ≤ g ∧ Has w'' (g, x) ∧ BelowD w.heap.size w w'')
  | _ => False
def mkAt (P : Program) (o : Oper) (a : Act) (w : World) (M : Value → Nat → TypeId × Array Value → Prop) : Prop := mkUpon P w M ((execOp a.eval o).run P w)
/-- A fact about all worlds to come, by blocks that the region has made and that the operation names. -/
def Reads (B : Nat) (w0 : World) (o : Oper) (a : Act) (E : Made) (Cn : World → Prop) : Prop :=
  ∃ R : List (Nat × TypeId × Array Value), (∀ r ∈ R, Ment o a r.1 ∧ E r.1 = some r.2) ∧ ∀ w, BelowD B w0 w → (∀ r ∈ R, B ≤ r.1 ∧ Has w r) → Cn w
/-- A value that hangs on what the operation looks at, and on nothing else. -/
def Loc (ops : Array Oper) (o : Oper) (vf : Act → Value) : Prop := ∀ (a : Act) (d : Option Tmp) (u : Value), (∀ t, d = some t → t ∉ o.looksAt ops) → vf (a.put d u) = vf a
def pOp (P : Program) (ops : Array Oper) (B : Nat) (w0 : World) (o : Oper) (p : Plan) (K : Act → Made → Prop) (a : Act) (E : Made) : Prop :=
  match p with
  | .inl v => Loc ops o v ∧ Reads B w0 o a E (fun w => calmAt P o a w (v a)) ∧ K (a.put o.dst (v a)) E
  | .inr M => (∀ N, ∃ u g x, N ≤ g ∧ M u g x) ∧ Reads B w0 o a E (fun w => mkAt P o a w M) ∧ ∀ u g x, M u g x → B ≤ g → E g = none → K (a.put o.dst u) (Calm.upd E g x)
def cOp (P : Program) (ops : Array Oper) (B : Nat) (w0 : World) (pl : Nat → Plan) (i : Nat) (K : Act → Made → Prop) (a : Act) (E : Made) : Prop :=
  match ops[i]? with
  | none => K a E
  | some o => if Region.wanted o (yielded ops a.tmps) then pOp P ops B w0 o (pl i) K a E else K (a.put o.dst undef) E
theorem pOp_mono_bounded {o : Oper} {p : Plan} {a : Act} {E : Made} {K K' : Act → Made → Prop} (hE : Bounded E) (h : ∀ a E, Bounded E → K a E → K' a E) (hh : pOp P ops B w0 o p K a E) : pOp P ops B w0 o p K' a E := by
  match p with
  | .inl v => exact ⟨hh.1, hh.2.1, h _ _ hE hh.2.2⟩
  | .inr M => exact ⟨hh.1, hh.2.1, fun u g x h1 h2 h3 => h _ _ (hE.upd _ _) (hh.2.2 u g x h1 h2 h3)⟩
theorem cOp_mono_bounded {i : Nat} {a : Act} {E : Made} {K K' : Act → Made → Prop} (hE : Bounded E) (h : ∀ a E, Bounded E → K a E → K' a E) (hh : cOp P ops B w0 pl i K a E) : cOp P ops B w0 pl i K' a E := by
  unfold cOp at *
  split
  · rename_i ho; simp only [ho] at hh; exact h _ _ hE hh
  · rename_i o ho
    simp only [ho] at hh
    split
    · rename_i hw; simp only [hw, if_true] at hh; exact pOp_mono_bounded hE h hh
    · rename_i hw; simp only [hw] at hh; exact h _ _ hE hh
theorem pOp_mono {o : Oper} {p : Plan} {a : Act} {E : Made} {K K' : Act → Made → Prop} (h : ∀ a E, K a E → K' a E) (hh : pOp P ops B w0 o p K a E) : pOp P ops B w0 o p K' a E := by
  match p with
  | .inl v => exact ⟨hh.1, hh.2.1, h _ _ hh.2.2⟩
  | .inr M => exact ⟨hh.1, hh.2.1, fun u g x h1 h2 h3 => h _ _ (hh.2.2 u g x h1 h2 h3)⟩
theorem cOp_mono {i : Nat} {a : Act} {E : Made} {K K' : Act → Made → Prop} (h : ∀ a E, K a E → K' a E) (hh : cOp P ops B w0 pl i K a E) : cOp P ops B w0 pl i K' a E := by
  unfold cOp at *
  split
  · rename_i ho; simp only [ho] at hh; exact h _ _ hh
  · rename_i o ho
    simp only [ho] at hh
    split
    · rename_i hw; simp only [hw, if_true] at hh; exact pOp_mono h hh
    · rename_i hw; simp only [hw] at hh; exact h _ _ hh
def wpLex (P : Program) (ops : Array Oper) (B : Nat) (w0 : World) (pl : Nat → Plan) (Q : Act → Made → Prop) : List Oper → Nat → Act → Made → Prop
  | [], _, a, E => Q a E
  | o :: rest, k, a, E => if Region.wanted o (yielded ops a.tmps) then pOp P ops B w0 o (pl k) (wpLex P ops B w0 pl Q rest (k + 1)) a E else wpLex P ops B w0 pl Q rest (k + 1) (a.put o.dst undef) E
def wpAnyC (P : Program) (md : Region.Mode) (ops : Array Oper) (B : Nat) (w0 : World) (pl : Nat → Plan) (Q : Act → Made → Prop) : Nat → Array Bool → Act → Made → Prop
  | 0, listed, a, E => Region.ready md ops listed = [] ∧ Q a E
  | fuel + 1, listed, a, E =>
    (Region.ready md ops listed = [] → Q a E) ∧
    ∀ i ∈ Region.ready md ops listed, cOp P ops B w0 pl i (wpAnyC P md ops B w0 pl Q fuel (listed.setIfInBounds i true)) a E
theorem Holds_made {E : Made} {w w' : World} (h : Holds B w0 E w) (hB : B ≤ w.heap.size) {g : Nat} {x : TypeId × Array Value} (hg : w.heap.size ≤ g) (hx : Has w' (g, x)) (hb : BelowD w.heap.size w w') : Holds B w0 (Calm.upd E g x) w' := by
  refine ⟨(h.ext hb hB).below, fun k T cs he => ?_⟩
  by_cases hk : k = g
  · subst hk
    rw [Calm.upd_same] at he
    injection he with he
    subst he
    exact ⟨by omega, hx⟩
  · rw [Calm.upd_ne _ _ hk] at he
    exact (h.ext hb hB).has k T cs he
theorem Holds_fresh {E : Made} {w : World} (h : Holds B w0 E w) {g : Nat} (hg : w.heap.size ≤ g) : E g = none := by
  cases he : E g with
  | none => rfl
  | some x =>
    have := (Array.getElem?_eq_some_iff.1 (h.has _ x.1 x.2 he).2).1
    omega
theorem wp_of_pOp {o : Oper} {p : Plan} {a : Act} {E : Made} {w : World} {K : Act → Made → Prop} {K' : Act → World → Prop} {Q' : Exit → Act → World → Prop} (hB : B ≤ w0.heap.size) (hw : Holds B w0 E w)
    (h : ∀ a E w, Holds B w0 E w → K a E → K' a w) (hh : pOp P ops B w0 o p K a E) : o.wp P a w K' Q' := by
  match p with
  | .inl v =>
    obtain ⟨_, ⟨R, hR, h1⟩, h2⟩ := hh
    have h3 : calmUpon P w (v a) ((execOp a.eval o).run P w) := h1 w hw.below (fun r hr => hw.has r.1 r.2.1 r.2.2 (hR r hr).2)
    unfold Oper.wp
    generalize (execOp a.eval o).run P w = r at *
    cases r with
    | ok n w' =>
      cases n <;> simp only [calmUpon] at h3 <;> simp only [Oper.upon]
      case value u => obtain ⟨rfl, rfl⟩ := h3; exact h _ _ _ hw h2
      case enter f args =>
        obtain ⟨rfl, hc⟩ := h3
        exact hc.mono fun e w'' ⟨he, hb⟩ => by subst he; exact h _ _ _ (hw.ext hb (hw.size hB)) h2
    | halt x w' => simp only [calmUpon] at h3
  | .inr M =>
    obtain ⟨_, ⟨R, hR, h1⟩, h2⟩ := hh
    have h3 : mkUpon P w M ((execOp a.eval o).run P w) := h1 w hw.below (fun r hr => hw.has r.1 r.2.1 r.2.2 (hR r hr).2)
    unfold Oper.wp
    generalize (execOp a.eval o).run P w = r at *
    cases r with
    | ok n w' =>
      cases n <;> simp only [mkUpon] at h3 <;> simp only [Oper.upon]
      case value u =>
        obtain ⟨g, x, hM, hg, hx, hb⟩ := h3
        exact h _ _ _ (Holds_made hw (hw.size hB) hg hx hb) (h2 u g x hM (Nat.le_trans (hw.size hB) hg) (Holds_fresh hw hg))
      case enter f args =>
        obtain ⟨rfl, hc⟩ := h3
        exact hc.mono fun e w'' ⟨u, g, x, hM, he, hg, hx, hb⟩ => by
          subst he
          exact h _ _ _ (Holds_made hw (hw.size hB) hg hx hb) (h2 u g x hM (Nat.le_trans (hw.size hB) hg) (Holds_fresh hw hg))
    | halt x w' => simp only [mkUpon] at h3
theorem wpOp_of_cOp {i : Nat} {a : Act} {E : Made} {w : World} {K : Act → Made → Prop} {K' : Act → World → Prop} {Q' : Exit → Act → World → Prop} (hB : B ≤ w0.heap.size) (hw : Holds B w0 E w)
    (h : ∀ a E w, Holds B w0 E w → K a E → K' a w) (hh : cOp P ops B w0 pl i K a E) : wpOp P ops Q' i K' a w := by
  unfold cOp at hh
  unfold wpOp
  split
  · rename_i ho; simp only [ho] at hh; exact h _ _ _ hw hh
  · rename_i o ho
    simp only [ho] at hh
    split
    · rename_i hwd; simp only [hwd, if_true] at hh; exact .inl (wp_of_pOp hB hw h hh)
    · rename_i hwd; simp only [hwd] at hh; exact h _ _ _ hw hh
theorem wpAny_of_calm {Q : Act → Made → Prop} {Q' : Exit → Act → World → Prop} (hB : B ≤ w0.heap.size) (hQ : ∀ a E w, Holds B w0 E w → Q a E → Q' .normal a w) : ∀ (fuel : Nat) (listed : Array Bool) (a : Act) (E : Made) (w : World), Holds B w0 E w →
    wpAnyC P md ops B w0 pl Q fuel listed a E → wpAny P md ops Q' fuel listed a w
  | 0, _, _, _, _, hw, h => ⟨h.1, hQ _ _ _ hw h.2⟩
  | fuel + 1, _, _, _, _, hw, h => ⟨fun h0 => hQ _ _ _ hw (h.1 h0), fun i hi => wpOp_of_cOp hB hw (fun a' E' w' hw' => wpAny_of_calm hB hQ fuel _ a' E' w' hw') (h.2 i hi)⟩
theorem mkAt_put {oj : Oper} (hsj : ∀ cs b, oj.op ≠ .select cs b) {a : Act} {d : Option Tmp} {u : Value} {M} (h : ∀ t, d = some t → t ∉ oj.looksAt ops) {w : World} : mkAt P oj (a.put d u) w M = mkAt P oj a w M := by
  unfold mkAt; rw [execOp_put oj hsj a d u h]
theorem evalPut {oj : Oper} {a : Act} {d : Option Tmp} {u : Value} (h : ∀ t, d = some t → t ∉ oj.looksAt ops) {x : Operand} (hx : x ∈ oj.op.operands.toList) : (a.put d u).eval x = a.eval x :=
  Act.eval_put fun t ht hp => h t ht (by
    subst hp
    unfold Oper.looksAt
    rw [List.mem_append]
    exact .inl (List.mem_filterMap.2 ⟨_, hx, rfl⟩))
theorem Ment_put {oj : Oper} {a : Act} {d : Option Tmp} {u : Value} (h : ∀ t, d = some t → t ∉ oj.looksAt ops) {g : Nat} : Ment oj (a.put d u) g ↔ Ment oj a g := by
  constructor
  · rintro ⟨x, hx, off, k, cap, e⟩; exact ⟨x, hx, off, k, cap, by rw [← evalPut h hx]; exact e⟩
  · rintro ⟨x, hx, off, k, cap, e⟩; exact ⟨x, hx, off, k, cap, by rw [evalPut h hx]; exact e⟩
theorem Reads.mono {o : Oper} {a a' : Act} {E E' : Made} {Cn Cn' : World → Prop} (h : Reads B w0 o a E Cn) (hm : ∀ g, Ment o a g → Ment o a' g) (he : ∀ g x, Ment o a g → E g = some x → E' g = some x) (hc : ∀ w, Cn w → Cn' w) : Reads B w0 o a' E' Cn' := by
  obtain ⟨R, h1, h2⟩ := h
  exact ⟨R, fun r hr => ⟨hm _ (h1 r hr).1, he _ _ (h1 r hr).1 (h1 r hr).2⟩, fun w hb hR => hc w (h2 w hb hR)⟩
theorem MentX_bound (a : Act) : ∀ xs : List Operand, ∃ N, ∀ g, N ≤ g → ¬ ∃ x ∈ xs, MentX a x g
  | [] => ⟨0, fun g _ ⟨x, hx, _⟩ => by cases hx⟩
  | x :: xs => by
    obtain ⟨N, hN⟩ := MentX_bound a xs
    by_cases hx : ∃ g, MentX a x g
    · obtain ⟨g0, off0, k0, c0, e0⟩ := hx
      refine ⟨max N (g0 + 1), fun g hg ⟨y, hy, hm⟩ => ?_⟩
      rcases List.mem_cons.1 hy with rfl | hy
      · obtain ⟨off, k, cap, e⟩ := hm
        rw [e0] at e
        injection e with e1
        injection e1 with e1
        injection e1 with e1
        omega
      · exact hN g (by omega) ⟨y, hy, hm⟩
    · refine ⟨N, fun g hg ⟨y, hy, hm⟩ => ?_⟩
      rcases List.mem_cons.1 hy with rfl | hy
      · exact hx ⟨g, hm⟩
      · exact hN g hg ⟨y, hy, hm⟩
theorem pOp_congr {o : Oper} {p : Plan} {a : Act} {E : Made} {K K' : Act → Made → Prop} (h : ∀ u E, K (a.put o.dst u) E = K' (a.put o.dst u) E) : pOp P ops B w0 o p K a E = pOp P ops B w0 o p K' a E := by
  match p with
  | .inl v => simp only [pOp, h]
  | .inr M => simp only [pOp, h]
/-- a new block that nothing names -/
theorem fresh_one {M : Value → Nat → TypeId × Array Value → Prop} (hM : ∀ N, ∃ u g x, N ≤ g ∧ M u g x) {E : Made} (hE : Bounded E) (B : Nat) (o : Oper) (a : Act) : ∃ u g x, M u g x ∧ B ≤ g ∧ E g = none ∧ ¬ Ment o a g := by
  obtain ⟨N1, h1⟩ := hE
  obtain ⟨N2, h2⟩ := MentX_bound a o.op.operands.toList
  obtain ⟨u, g, x, hg, hm⟩ := hM (max B (max N1 N2))
  exact ⟨u, g, x, hm, by omega, h1 g (by omega), h2 g (by omega)⟩
theorem cOp_swap {i j : Nat} {oi oj : Oper} (hi : ops[i]? = some oi) (hj : ops[j]? = some oj) (hap : oi.apart ops oj = true)
    (hsi : ∀ cs b, oi.op ≠ .select cs b) (hsj : ∀ cs b, oj.op ≠ .select cs b) {K : Act → Made → Prop} {a : Act} {E : Made} (hE : Bounded E)
    (H : cOp P ops B w0 pl i (fun a1 E1 => cOp P ops B w0 pl j K a1 E1) a E) : cOp P ops B w0 pl j (fun a1 E1 => cOp P ops B w0 pl i K a1 E1) a E := by
  obtain ⟨h1, h2, h3⟩ := Oper.apart_spec hap
  have wj : ∀ a u, Region.wanted oj (yielded ops (Act.put a oi.dst u).tmps) = Region.wanted oj (yielded ops a.tmps) := fun a u => wanted_put oj a oi.dst u h1
  have wi : ∀ a u, Region.wanted oi (yielded ops (Act.put a oj.dst u).tmps) = Region.wanted oi (yielded ops a.tmps) := fun a u => wanted_put oi a oj.dst u h3
  have pc : ∀ (a : Act) (v u : Value), (a.put oi.dst v).put oj.dst u = (a.put oj.dst u).put oi.dst v := fun a v u => Act.put_comm a v u h2
  -- i's reads behind j
  have ri : ∀ {E E' : Made} {Cn Cn' : World → Prop} (u : Value), Reads B w0 oi a E Cn → (∀ g x, E g = some x → E' g = some x) → (∀ w, Cn w → Cn' w) → Reads B w0 oi (a.put oj.dst u) E' Cn' := fun u hR he hc => hR.mono (fun g => (Ment_put h3).2) (fun g x _ => he g x) hc
  -- j's reads ahead of i
  have rj : ∀ {E E' : Made} {Cn Cn' : World → Prop} (u : Value), Reads B w0 oj (a.put oi.dst u) E Cn → (∀ g x, Ment oj a g → E g = some x → E' g = some x) → (∀ w, Cn w → Cn' w) → Reads B w0 oj a E' Cn' := fun u hR he hc => hR.mono (fun g => (Ment_put h1).1) (fun g x hm => he g x ((Ment_put h1).1 hm)) hc
  have up : ∀ {E : Made} {g x}, E g = none → ∀ k y, E k = some y → Calm.upd E g x k = some y := fun hn k y hy => by
    rw [Calm.upd_ne _ _ (fun e => by subst e; rw [hn] at hy; cases hy)]; exact hy
  unfold cOp at H ⊢
  simp only [hi, hj] at H ⊢
  have cA1 : ∀ {K}, Region.wanted oj (yielded ops a.tmps) = true → pOp P ops B w0 oi (pl i) (fun a1 E1 => if Region.wanted oj (yielded ops a1.tmps) = true then pOp P ops B w0 oj (pl j) K a1 E1 else K (a1.put oj.dst undef) E1) a E = pOp P ops B w0 oi (pl i) (fun a1 E1 => pOp P ops B w0 oj (pl j) K a1 E1) a E := fun c => pOp_congr fun u E => by simp only [wj, c, if_true]
  have cA2 : ∀ {K}, ¬ Region.wanted oj (yielded ops a.tmps) = true → pOp P ops B w0 oi (pl i) (fun a1 E1 => if Region.wanted oj (yielded ops a1.tmps) = true then pOp P ops B w0 oj (pl j) K a1 E1 else K (a1.put oj.dst undef) E1) a E = pOp P ops B w0 oi (pl i) (fun a1 E1 => K (a1.put oj.dst undef) E1) a E := fun c => pOp_congr fun u E => by simp only [wj, c, if_false, Bool.false_eq_true]
  have cB1 : ∀ {K}, Region.wanted oi (yielded ops a.tmps) = true → pOp P ops B w0 oj (pl j) (fun a1 E1 => if Region.wanted oi (yielded ops a1.tmps) = true then pOp P ops B w0 oi (pl i) K a1 E1 else K (a1.put oi.dst undef) E1) a E = pOp P ops B w0 oj (pl j) (fun a1 E1 => pOp P ops B w0 oi (pl i) K a1 E1) a E := fun c => pOp_congr fun u E => by simp only [wi, c, if_true]
  have cB2 : ∀ {K}, ¬ Region.wanted oi (yielded ops a.tmps) = true → pOp P ops B w0 oj (pl j) (fun a1 E1 => if Region.wanted oi (yielded ops a1.tmps) = true then pOp P ops B w0 oi (pl i) K a1 E1 else K (a1.put oi.dst undef) E1) a E = pOp P ops B w0 oj (pl j) (fun a1 E1 => K (a1.put oi.dst undef) E1) a E := fun c => pOp_congr fun u E => by simp only [wi, c, if_false, Bool.false_eq_true]
  by_cases ci : Region.wanted oi (yielded ops a.tmps) = true <;> by_cases cj : Region.wanted oj (yielded ops a.tmps) = true
  · rw [if_pos ci, cA1 cj] at H; rw [if_pos cj, cB1 ci]
    clear cA1 cA2 cB1 cB2 wi wj
    generalize pl i = p at *
    generalize pl j = q at *
    match p, q with
    | .inl v, .inl u =>
      obtain ⟨a0, a1, b0, a2, a3⟩ := H
      have e1 := b0 a oi.dst (v a) h1
      have e2 := a0 a oj.dst (u a) h3
      rw [e1] at a2 a3
      refine ⟨b0, rj (v a) a2 (fun g x _ h => h) (fun w h => by rwa [calmAt_put hsj h1] at h), a0, ?_, ?_⟩
      · rw [e2]; exact ri (u a) a1 (fun g x h => h) (fun w h => by rw [calmAt_put hsi h3]; exact h)
      · rw [e2, ← pc]; exact a3
    | .inl v, .inr M =>
      obtain ⟨a0, a1, b1, b2, b3⟩ := H
      refine ⟨b1, rj (v a) b2 (fun g x _ h => h) (fun w h => by rwa [mkAt_put hsj h1] at h), fun u g x m1 m2 m3 => ?_⟩
      have e2 := a0 a oj.dst u h3
      refine ⟨a0, ?_, ?_⟩
      · rw [e2]; exact ri u a1 (up m3) (fun w h => by rw [calmAt_put hsi h3]; exact h)
      · rw [e2, ← pc]; exact b3 u g x m1 m2 m3
    | .inr M, .inl u =>
      obtain ⟨a0, a1, a2⟩ := H
      obtain ⟨v0, g0, x0, f1, f2, f3, f4⟩ := fresh_one a0 hE B oj a
      obtain ⟨b0, b1, _⟩ := a2 v0 g0 x0 f1 f2 f3
      have e1 := fun v' => b0 a oi.dst v' h1
      rw [e1] at b1
      refine ⟨b0, rj v0 b1 (fun g x hm h => ?_) (fun w h => by rwa [calmAt_put hsj h1] at h), a0, ri (u a) a1 (fun g x h => h) (fun w h => by rw [mkAt_put hsi h3]; exact h), fun v g x m1 m2 m3 => by
        have := (a2 v g x m1 m2 m3).2.2
        rw [e1] at this
        rw [← pc]; exact this⟩
      rw [Calm.upd_ne _ _ (fun e => by subst e; exact f4 hm)] at h; exact h
    | .inr M, .inr M' =>
      obtain ⟨a0, a1, a2⟩ := H
      obtain ⟨v0, g0, x0, f1, f2, f3, f4⟩ := fresh_one a0 hE B oj a
      obtain ⟨b0, b1, _⟩ := a2 v0 g0 x0 f1 f2 f3
      refine ⟨b0, rj v0 b1 (fun g x hm h => ?_) (fun w h => by rwa [mkAt_put hsj h1] at h), fun u' g' x' m1' m2' m3' => ⟨a0, ri u' a1 (up m3') (fun w h => by rw [mkAt_put hsi h3]; exact h), fun u g x m1 m2 m3 => ?_⟩⟩
      · rw [Calm.upd_ne _ _ (fun e => by subst e; exact f4 hm)] at h; exact h
      · have hne : g ≠ g' := fun e => by subst e; rw [Calm.upd_same] at m3; cases m3
        rw [Calm.upd_ne _ _ hne] at m3
        rw [← pc, Calm.upd_comm _ _ _ hne]
        exact (a2 u g x m1 m2 m3).2.2 u' g' x' m1' m2' (by rw [Calm.upd_ne _ _ (Ne.symm hne)]; exact m3')
  · rw [if_pos ci, cA2 cj] at H; rw [if_neg cj, if_pos (by rw [wi]; exact ci)]
    clear cA1 cA2 cB1 cB2 wi wj
    generalize pl i = p at *
    match p with
    | .inl v =>
      have e2 := H.1 a oj.dst undef h3
      refine ⟨H.1, ?_, ?_⟩
      · rw [e2]; exact ri _ H.2.1 (fun g x h => h) (fun w h => by rw [calmAt_put hsi h3]; exact h)
      · rw [e2, ← pc]; exact H.2.2
    | .inr M => exact ⟨H.1, ri _ H.2.1 (fun g x h => h) (fun w h => by rw [mkAt_put hsi h3]; exact h), fun u g x m1 m2 m3 => by rw [← pc]; exact H.2.2 u g x m1 m2 m3⟩
  · rw [if_neg ci, if_pos (by rw [wj]; exact cj)] at H; rw [if_pos cj, cB2 ci]
    clear cA1 cA2 cB1 cB2 wi wj
    generalize pl j = q at *
    match q with
    | .inl u =>
      obtain ⟨b0, b1, b2⟩ := H
      have e1 := b0 a oi.dst undef h1
      rw [e1] at b1 b2
      exact ⟨b0, rj _ b1 (fun g x _ h => h) (fun w h => by rwa [calmAt_put hsj h1] at h), by show K _ _; rw [← pc]; exact b2⟩
    | .inr M => exact ⟨H.1, rj _ H.2.1 (fun g x _ h => h) (fun w h => by rwa [mkAt_put hsj h1] at h), fun u g x m1 m2 m3 => by show K _ _; rw [← pc]; exact H.2.2 u g x m1 m2 m3⟩
  · rw [if_neg ci, if_neg (by rw [wj]; exact cj)] at H; rw [if_neg cj, if_neg (by rw [wi]; exact ci)]
    rw [← pc]; exact H
theorem cOp_no {i : Nat} {oi : Oper} (hi : ops[i]? = some oi) (a : Act) (E : Made) (hE : Bounded E) : ¬ cOp P ops B w0 pl i (fun _ _ => False) a E := by
  intro h
  unfold cOp at h
  simp only [hi] at h
  split at h
  · generalize pl i = p at h
    match p with
    | .inl v => exact h.2.2
    | .inr M =>
      obtain ⟨u, g, x, f1, f2, f3, _⟩ := fresh_one h.1 hE B oi a
      exact h.2.2 u g x f1 f2 f3
  · exact h
theorem wpAnyC_first {Q : Act → Made → Prop} {i : Nat} {oi : Oper} (hi : ops[i]? = some oi) (hsel : ∀ (j : Nat) (o : Oper) cs b, ops[j]? = some o → o.op ≠ .select cs b) :
    ∀ (fuel : Nat) (listed : Array Bool) (a : Act) (E : Made), Bounded E →
      (∀ j oj, ops[j]? = some oj → j ≠ i → listed.getD j true = false → (∀ e ∈ oj.after, Region.binds md e = true → e.on ≠ i) → oi.apart ops oj = true) →
      i ∈ Region.ready md ops listed → cOp P ops B w0 pl i (wpAnyC P md ops B w0 pl Q fuel (listed.setIfInBounds i true)) a E →
      wpAnyC P md ops B w0 pl Q (fuel + 1) listed a E := by
  intro fuel
  induction fuel with
  | zero =>
    intro listed a E hE hfree hr H
    refine ⟨fun h => (by rw [h] at hr; cases hr), fun j hj => ?_⟩
    by_cases hji : j = i
    · subst hji; exact H
    · exfalso
      have hm := ready_mono hj hji
      exact cOp_no hi a E hE (cOp_mono (fun a E h => by rw [h.1] at hm; cases hm) H)
  | succ fuel ih =>
    intro listed a E hE hfree hr H
    refine ⟨fun h => (by rw [h] at hr; cases hr), fun j hj => ?_⟩
    by_cases hji : j = i
    · subst hji; exact H
    · obtain ⟨hjun, oj, hoj, hall⟩ := mem_ready.1 hj
      have hnot : ∀ e ∈ oj.after, Region.binds md e = true → e.on ≠ i := fun e he hb heq => by
        have h1 := hall e he hb
        have h0 := (mem_ready.1 hr).1
        rw [heq] at h1
        rcases Nat.lt_or_ge i listed.size with h' | h'
        · simp [h'] at h0 h1; rw [h0] at h1; cases h1
        · simp [Array.getElem?_eq_none h'] at h1
      have hap := hfree j oj hoj hji hjun hnot
      have h1 := cOp_mono (K' := fun a1 E1 => cOp P ops B w0 pl j (wpAnyC P md ops B w0 pl Q fuel ((listed.setIfInBounds i true).setIfInBounds j true)) a1 E1) (fun a E h => h.2 j (ready_mono hj hji)) H
      have h2 := cOp_swap hi hoj hap (fun cs b => hsel i oi cs b hi) (fun cs b => hsel j oj cs b hoj) hE h1
      refine cOp_mono_bounded hE (fun a' E' hE' h3 => ih (listed.setIfInBounds j true) a' E' hE' ?_ (ready_mono hr (Ne.symm hji)) ?_) h2
      · intro k ok hk hki hun hno
        refine hfree k ok hk hki ?_ hno
        by_cases hjk : j = k
        · subst hjk; exact hjun
        · rw [getD_set_ne true hjk] at hun; exact hun
      · rw [Array.setIfInBounds_comm _ _ hji]
        exact h3
theorem wpAnyC_lex {Q : Act → Made → Prop} (hs : Region.noSelect ops = true) : ∀ (l : List Oper) (k : Nat) (listed : Array Bool) (a : Act) (E : Made), Bounded E → (∀ j, l[j]? = ops[k + j]?) →
    Region.lexFrom md ops l.length k listed = true → wpLex P ops B w0 pl Q l k a E → wpAnyC P md ops B w0 pl Q l.length listed a E
  | [], _, _, _, _, _, _, hB, h => ⟨by simpa [Region.lexFrom] using hB, h⟩
  | o :: l, k, listed, a, E, hE, hl, hB, h => by
    have h0 : ops[k]? = some o := by simpa using (hl 0).symm
    simp only [List.length_cons, Region.lexFrom, Bool.and_eq_true] at hB
    obtain ⟨⟨hr, hf⟩, hB'⟩ := hB
    have hC : cOp P ops B w0 pl k (wpLex P ops B w0 pl Q l (k + 1)) a E := by unfold cOp; simp only [h0]; exact h
    refine wpAnyC_first h0 (Region.noSelect_spec hs) l.length listed a E hE (fun j oj hj hne hun hno => Region.free_spec h0 hf j oj hj hne hun hno) (by simpa using hr) ?_
    exact cOp_mono_bounded hE (fun a' E' hE' h' => wpAnyC_lex hs l (k + 1) _ a' E' hE' (fun j => by have := hl (j + 1); simpa [Nat.add_assoc, Nat.add_comm 1 j] using this) hB' h') hC
theorem wp_region_calm {id : Nat} {Q : Exit → Act → World → Prop} {a : Act} {w : World} {l : List Oper} (pl : List Plan) (hm : P.follows .mixedOrders = true) (hB : Region.lexB .any l.toArray = true)
    (h : wpLex P l.toArray w.heap.size w (fun i => pl.getD i (.inl fun _ => undef)) (fun a' E => ∀ w', Holds w.heap.size w E w' → Q .normal a' w') l 0 a (fun _ => none)) : (Code.region id l.toArray true).wp P Q a w := by
  simp only [Region.lexB, Bool.and_eq_true] at hB
  refine wp_region_any hm (wpAny_of_calm (B := w.heap.size) (w0 := w) (pl := fun i => pl.getD i (.inl fun _ => undef)) (Q := fun a' E => ∀ w', Holds w.heap.size w E w' → Q .normal a' w') (E := fun _ => none) (Nat.le_refl _) (fun _ _ w' hw' h => h w' hw') _ _ _ _ ?_ ?_)
  · exact ⟨⟨⟨rfl, rfl, rfl, Nat.le_refl _, fun _ _ => rfl⟩, Nat.le_succ _⟩, fun _ _ _ h => by cases h⟩
  · have := wpAnyC_lex (P := P) (B := w.heap.size) (w0 := w) (pl := fun i => pl.getD i (.inl fun _ => undef)) (md := .any) hB.1 l 0 (Array.replicate l.toArray.size false) a (fun _ => none) ⟨0, fun _ _ => rfl⟩ (by simp) (by simpa using hB.2) h
    simpa using this
end
end Go.Proofs.Ytnafnhpajkhgkaa.CalmBD
/- slices.MinFunc of cells. A list that is not empty, of at most 2^20. -/
namespace Go.Proofs.Ytnafnhpajkhgkaa
set_option linter.unusedVariables false
set_option linter.unusedSimpArgs false
open Go.RowKit Mem Wk Go.Sort
attribute [local irreducible] Calls Wk.S Wk.C Wk.E Wk.X Wk.T Wk.andV Wk.shrV Calm.wpLex
theorem cmpS_b (x y : Sp) (w : World) (hx : inR x) (hy : inR y) :
    Calls Try.prog 54 #[.agg #[.int .i8 x.x, .int .i8 x.y], .agg #[.int .i8 y.x, .int .i8 y.y]] w fun e w' => e = .returned (.int .i64 (cmS x y)) ∧ Below w.heap.size w w' :=
  (cmpS_grow ⟨x, hx⟩ ⟨y, hy⟩ w).mono fun _ _ ⟨he, q, os, hw⟩ => ⟨he, by rw [hw]; exact (CalmBD.BelowD.of_grow q os).below⟩
theorem minS_snoc : ∀ (l : List Sp) (m a : Sp), minS m (l ++ [a]) = if ltS a (minS m l) then a else minS m l
  | [], m, a => rfl
  | c :: l, m, a => by
    rw [List.cons_append]
    show minS (if ltS c m then c else m) (l ++ [a]) = if ltS a (minS (if ltS c m then c else m) l) then a else minS (if ltS c m then c else m) l
    exact minS_snoc l _ a
end Go.Proofs.Ytnafnhpajkhgkaa
