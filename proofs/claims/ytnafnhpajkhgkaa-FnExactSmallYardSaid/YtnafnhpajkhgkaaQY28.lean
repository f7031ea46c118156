import Derived.Test.YtnafnhpajkhgkaaQY10
import Derived.Test.YtnafnhpajkhgkaaQY12
import Derived.Test.YtnafnhpajkhgkaaQY13
/- A region that draws its order: calm operations, effects that wait for each other, and new blocks that any effect may come ahead of or behind. XEf with a wider plan. Plain theorems; no condition. -/
namespace Go.Proofs.Ytnafnhpajkhgkaa.CalmH
set_option linter.unusedVariables false
set_option linter.unusedSimpArgs false
open Go Go.RowKit Mem Calm
/-- A plan: what a calm operation yields; what an effect may yield and leave. -/
abbrev Plan (α : Type) := Value ⊕ ((α → α → Prop) × (α → Value → α → Prop))
def isE {α : Type} : Plan α → Bool
  | .inl _ => false
  | .inr _ => true
def Agree {α : Type} : List (Plan α) → List Bool → Prop
  | [], _ => True
  | .inl _ :: ps, _ :: bs => Agree ps bs
  | .inr _ :: ps, b :: bs => b = true ∧ Agree ps bs
  | _ :: _, [] => False
theorem Agree.get {α : Type} : ∀ {ps : List (Plan α)} {bs : List Bool}, Agree ps bs → ∀ (i : Nat), isE (ps.getD i (.inl undef)) = true → bs.getD i false = true
  | [], bs, _, i, h => by simp [isE] at h
  | .inl v :: ps, b :: bs, ha, 0, h => by simp [isE] at h
  | .inr v :: ps, b :: bs, ha, 0, h => by simpa using ha.1
  | .inl v :: ps, b :: bs, ha, i + 1, h => by simpa using Agree.get (ps := ps) (bs := bs) ha i (by simpa using h)
  | .inr v :: ps, b :: bs, ha, i + 1, h => by simpa using Agree.get (ps := ps) (bs := bs) ha.2 i (by simpa using h)
  | .inl v :: ps, [], ha, i, h => by cases ha
  | .inr v :: ps, [], ha, i, h => by cases ha
section
variable {P : Program} {ops : Array Oper} {md : Region.Mode} {α : Type} {Hd : α → World → Prop} {Nok : α → Prop} {pl : Nat → Plan α}
def effUpon (P : Program) (w : World) (R : Value → World → Prop) : Result Next → Prop
  | .ok (.value u) w' => R u w'
  | .ok .skip w' => R undef w'
  | .ok (.enter f args) w' => w' = w ∧ Calls P f args w (fun e w'' => ∃ v, e = .returned v ∧ R v w'')
  | _ => False
def effAt (P : Program) (o : Oper) (a : Act) (w : World) (R : Value → World → Prop) : Prop := effUpon P w R ((execOp a.eval o).run P w)
def pOp (P : Program) (Hd : α → World → Prop) (Nok : α → Prop) (o : Oper) (p : Plan α) (K : Act → α → Prop) (a : Act) (E : α) : Prop :=
  match p with
  | .inl v => (∀ E', Nok E' → ∀ w, Hd E' w → calmAt P o a w v) ∧ K (a.put o.dst v) E
  | .inr tr => (tr.1 E E ∧ ∀ E0, tr.1 E E0 → ∀ w, Hd E0 w → effAt P o a w (fun v w' => ∃ E', tr.2 E0 v E' ∧ Hd E' w')) ∧ (∀ E0, tr.1 E E0 → ∃ v E', tr.2 E0 v E') ∧ ∀ v E', tr.2 E v E' → Nok E' ∧ K (a.put o.dst v) E'
def cOp (P : Program) (ops : Array Oper) (Hd : α → World → Prop) (Nok : α → Prop) (pl : Nat → Plan α) (i : Nat) (K : Act → α → Prop) (a : Act) (E : α) : Prop :=
  match ops[i]? with
  | none => K a E
  | some o => if Region.wanted o (yielded ops a.tmps) then pOp P Hd Nok o (pl i) K a E else K (a.put o.dst undef) E
theorem pOp_mono {o : Oper} {p : Plan α} {a : Act} {E : α} {K K' : Act → α → Prop} (h : ∀ a E, K a E → K' a E) (hh : pOp P Hd Nok o p K a E) : pOp P Hd Nok o p K' a E := by
  match p with
  | .inl v => exact ⟨hh.1, h _ _ hh.2⟩
  | .inr tr => exact ⟨hh.1, hh.2.1, fun v E' ht => ⟨(hh.2.2 v E' ht).1, h _ _ (hh.2.2 v E' ht).2⟩⟩
theorem cOp_mono {i : Nat} {a : Act} {E : α} {K K' : Act → α → Prop} (h : ∀ a E, K a E → K' a E) (hh : cOp P ops Hd Nok pl i K a E) : cOp P ops Hd Nok pl i K' a E := by
  unfold cOp at *
  split
  · rename_i ho; simp only [ho] at hh; exact h _ _ hh
  · rename_i o ho
    simp only [ho] at hh
    split
    · rename_i hw; simp only [hw, if_true] at hh; exact pOp_mono h hh
    · rename_i hw; simp only [hw] at hh; exact h _ _ hh
def wpLex (P : Program) (ops : Array Oper) (Hd : α → World → Prop) (Nok : α → Prop) (pl : Nat → Plan α) (Q : Act → α → Prop) : List Oper → Nat → Act → α → Prop
  | [], _, a, E => Q a E
  | o :: rest, k, a, E => if Region.wanted o (yielded ops a.tmps) then pOp P Hd Nok o (pl k) (wpLex P ops Hd Nok pl Q rest (k + 1)) a E else wpLex P ops Hd Nok pl Q rest (k + 1) (a.put o.dst undef) E
def Clo (Hd : α → World → Prop) : Prop := ∀ E w w', Hd E w → Below w.heap.size w w' → Hd E w'
theorem wp_of_pOp {o : Oper} {p : Plan α} {a : Act} {E : α} {w : World} {K : Act → α → Prop} {K' : Act → World → Prop} {Q' : Exit → Act → World → Prop} (hcl : Clo Hd) (hE : Nok E) (hw : Hd E w)
    (h : ∀ a E w, Nok E → Hd E w → K a E → K' a w) (hh : pOp P Hd Nok o p K a E) : o.wp P a w K' Q' := by
  match p with
  | .inl v =>
    obtain ⟨h1, h2⟩ := hh
    have h3 := h1 E hE w hw
    unfold calmAt at h3
    unfold Oper.wp
    generalize (execOp a.eval o).run P w = r at *
    cases r with
    | ok n w' =>
      cases n <;> simp only [calmUpon] at h3 <;> simp only [Oper.upon]
      case value u => obtain ⟨rfl, rfl⟩ := h3; exact h _ _ _ hE hw h2
      case enter f args =>
        obtain ⟨rfl, hc⟩ := h3
        exact hc.mono fun e w'' ⟨he, hb⟩ => by subst he; exact h _ _ _ hE (hcl _ _ _ hw hb) h2
    | halt x w' => simp only [calmUpon] at h3
  | .inr tr =>
    obtain ⟨⟨hr, h1⟩, _, h2⟩ := hh
    have h3 := h1 E hr w hw
    unfold effAt at h3
    unfold Oper.wp
    generalize (execOp a.eval o).run P w = r at *
    cases r with
    | ok n w' =>
      cases n <;> simp only [effUpon] at h3 <;> simp only [Oper.upon]
      case value u => obtain ⟨E', ht, hR⟩ := h3; exact h _ _ _ (h2 _ _ ht).1 hR (h2 _ _ ht).2
      case skip => obtain ⟨E', ht, hR⟩ := h3; exact h _ _ _ (h2 _ _ ht).1 hR (h2 _ _ ht).2
      case enter f args =>
        obtain ⟨rfl, hc⟩ := h3
        exact hc.mono fun e w'' ⟨v, he, E', ht, hR⟩ => by subst he; exact h _ _ _ (h2 _ _ ht).1 hR (h2 _ _ ht).2
    | halt x w' => simp only [effUpon] at h3
theorem wpOp_of_cOp {i : Nat} {a : Act} {E : α} {w : World} {K : Act → α → Prop} {K' : Act → World → Prop} {Q' : Exit → Act → World → Prop} (hcl : Clo Hd) (hE : Nok E) (hw : Hd E w)
    (h : ∀ a E w, Nok E → Hd E w → K a E → K' a w) (hh : cOp P ops Hd Nok pl i K a E) : wpOp P ops Q' i K' a w := by
  unfold cOp at hh
  unfold wpOp
  split
  · rename_i ho; simp only [ho] at hh; exact h _ _ _ hE hw hh
  · rename_i o ho
    simp only [ho] at hh
    split
    · rename_i hwd; simp only [hwd, if_true] at hh; exact .inl (wp_of_pOp hcl hE hw h hh)
    · rename_i hwd; simp only [hwd] at hh; exact h _ _ _ hE hw hh
theorem effAt_put {oj : Oper} (hsj : ∀ cs b, oj.op ≠ .select cs b) {a : Act} {d : Option Tmp} {u : Value} {R : Value → World → Prop} (h : ∀ t, d = some t → t ∉ oj.looksAt ops) {w : World} : effAt P oj (a.put d u) w R = effAt P oj a w R := by
  unfold effAt; rw [execOp_put oj hsj a d u h]
theorem pOp_congr {o : Oper} {p : Plan α} {a : Act} {E : α} {K K' : Act → α → Prop} (h : ∀ u E, K (a.put o.dst u) E = K' (a.put o.dst u) E) : pOp P Hd Nok o p K a E = pOp P Hd Nok o p K' a E := by
  match p with
  | .inl v => simp only [pOp, h]
  | .inr vf => simp only [pOp, h]
/-- what two plans must share where neither waits for the other -/
def Comm {α : Type} : Plan α → Plan α → Prop
  | .inr p, .inr q => (∀ E, p.1 E E) ∧ (∀ E, q.1 E E) ∧ (∀ E v E1 E', p.2 E v E1 → q.1 E E' → q.1 E1 E') ∧ (∀ E v E2 E', q.2 E v E2 → p.1 E2 E' → p.1 E E') ∧ ∀ E v' E2 v E3, q.2 E v' E2 → p.2 E2 v E3 → ∃ E1, p.2 E v E1 ∧ q.2 E1 v' E3
  | _, _ => True
theorem cOp_swap {i j : Nat} {oi oj : Oper} (hi : ops[i]? = some oi) (hj : ops[j]? = some oj) (hap : oi.apart ops oj = true) (hok0 : ∀ E, Nok E) (hnot : Comm (pl i) (pl j))
    (hsi : ∀ cs b, oi.op ≠ .select cs b) (hsj : ∀ cs b, oj.op ≠ .select cs b) {K : Act → α → Prop} {a : Act} {E : α}
    (H : cOp P ops Hd Nok pl i (fun a1 E1 => cOp P ops Hd Nok pl j K a1 E1) a E) : cOp P ops Hd Nok pl j (fun a1 E1 => cOp P ops Hd Nok pl i K a1 E1) a E := by
  obtain ⟨h1, h2, h3⟩ := Oper.apart_spec hap
  have wj : ∀ a u, Region.wanted oj (yielded ops (Act.put a oi.dst u).tmps) = Region.wanted oj (yielded ops a.tmps) := fun a u => wanted_put oj a oi.dst u h1
  have wi : ∀ a u, Region.wanted oi (yielded ops (Act.put a oj.dst u).tmps) = Region.wanted oi (yielded ops a.tmps) := fun a u => wanted_put oi a oj.dst u h3
  have pc : ∀ (a : Act) (v u : Value), (a.put oi.dst v).put oj.dst u = (a.put oj.dst u).put oi.dst v := fun a v u => Act.put_comm a v u h2
  unfold cOp at H ⊢
  simp only [hi, hj] at H ⊢
  have cA1 : ∀ {K}, Region.wanted oj (yielded ops a.tmps) = true → pOp P Hd Nok oi (pl i) (fun a1 E1 => if Region.wanted oj (yielded ops a1.tmps) = true then pOp P Hd Nok oj (pl j) K a1 E1 else K (a1.put oj.dst undef) E1) a E = pOp P Hd Nok oi (pl i) (fun a1 E1 => pOp P Hd Nok oj (pl j) K a1 E1) a E := fun c => pOp_congr fun u E => by simp only [wj, c, if_true]
  have cA2 : ∀ {K}, ¬ Region.wanted oj (yielded ops a.tmps) = true → pOp P Hd Nok oi (pl i) (fun a1 E1 => if Region.wanted oj (yielded ops a1.tmps) = true then pOp P Hd Nok oj (pl j) K a1 E1 else K (a1.put oj.dst undef) E1) a E = pOp P Hd Nok oi (pl i) (fun a1 E1 => K (a1.put oj.dst undef) E1) a E := fun c => pOp_congr fun u E => by simp only [wj, c, if_false, Bool.false_eq_true]
  have cB1 : ∀ {K}, Region.wanted oi (yielded ops a.tmps) = true → pOp P Hd Nok oj (pl j) (fun a1 E1 => if Region.wanted oi (yielded ops a1.tmps) = true then pOp P Hd Nok oi (pl i) K a1 E1 else K (a1.put oi.dst undef) E1) a E = pOp P Hd Nok oj (pl j) (fun a1 E1 => pOp P Hd Nok oi (pl i) K a1 E1) a E := fun c => pOp_congr fun u E => by simp only [wi, c, if_true]
  have cB2 : ∀ {K}, ¬ Region.wanted oi (yielded ops a.tmps) = true → pOp P Hd Nok oj (pl j) (fun a1 E1 => if Region.wanted oi (yielded ops a1.tmps) = true then pOp P Hd Nok oi (pl i) K a1 E1 else K (a1.put oi.dst undef) E1) a E = pOp P Hd Nok oj (pl j) (fun a1 E1 => K (a1.put oi.dst undef) E1) a E := fun c => pOp_congr fun u E => by simp only [wi, c, if_false, Bool.false_eq_true]
  by_cases ci : Region.wanted oi (yielded ops a.tmps) = true <;> by_cases cj : Region.wanted oj (yielded ops a.tmps) = true
  · rw [if_pos ci, cA1 cj] at H; rw [if_pos cj, cB1 ci]
    clear cA1 cA2 cB1 cB2 wi wj
    generalize pl i = p at *
    generalize pl j = q at *
    match p, q with
    | .inl v, .inl u =>
      obtain ⟨a1, a2, a3⟩ := H
      exact ⟨fun E' hE' w hw => by have := a2 E' hE' w hw; rwa [calmAt_put hsj h1] at this, fun E' hE' w hw => by rw [calmAt_put hsi h3]; exact a1 E' hE' w hw, by rw [← pc]; exact a3⟩
    | .inl v, .inr tr =>
      obtain ⟨a1, ⟨ar, a2⟩, ex, a3⟩ := H
      exact ⟨⟨ar, fun E0 hD w hw => by have := a2 E0 hD w hw; rwa [effAt_put hsj h1] at this⟩, ex, fun v' E' ht => ⟨(a3 v' E' ht).1, fun E' hE' w hw => by rw [calmAt_put hsi h3]; exact a1 E' hE' w hw, by rw [← pc]; exact (a3 v' E' ht).2⟩⟩
    | .inr tr, .inl u =>
      obtain ⟨⟨ar, a1⟩, ex, a2⟩ := H
      obtain ⟨v0, E0, ht0⟩ := ex E ar
      exact ⟨fun E' hE' w hw => by have := (a2 v0 E0 ht0).2.1 E' hE' w hw; rwa [calmAt_put hsj h1] at this, ⟨ar, fun E0 hD w hw => by rw [effAt_put hsi h3]; exact a1 E0 hD w hw⟩, ex, fun v E' ht => ⟨(a2 v E' ht).1, by rw [← pc]; exact (a2 v E' ht).2.2⟩⟩
    | .inr tr, .inr ur =>
      obtain ⟨r1, r2, c1, c2, c3⟩ := hnot
      obtain ⟨⟨ar, a1⟩, ex, a2⟩ := H
      obtain ⟨v0, E0, ht0⟩ := ex E ar
      obtain ⟨_, ⟨br, b1⟩, exj, _⟩ := a2 v0 E0 ht0
      refine ⟨⟨r2 E, fun E' hD w hw => ?_⟩, fun E' hD => exj E' (c1 E v0 E0 E' ht0 hD), fun v' E2 ht2 => ?_⟩
      · have := b1 E' (c1 E v0 E0 E' ht0 hD) w hw; rwa [effAt_put hsj h1] at this
      · have hd := fun E' hD => c2 E v' E2 E' ht2 hD
        have hN2 : ∀ v E3, tr.2 E2 v E3 → Nok E3 ∧ K ((a.put oj.dst v').put oi.dst v) E3 := fun v E3 ht3 => by
          obtain ⟨E1, q1, q2⟩ := c3 E v' E2 v E3 ht2 ht3
          obtain ⟨_, _, _, q3⟩ := a2 v E1 q1
          exact ⟨(q3 v' E3 q2).1, by rw [← pc]; exact (q3 v' E3 q2).2⟩
        exact ⟨hok0 E2, ⟨r1 E2, fun E' hD w hw => by rw [effAt_put hsi h3]; exact a1 E' (hd E' hD) w hw⟩, fun E' hD => ex E' (hd E' hD), hN2⟩
  · rw [if_pos ci, cA2 cj] at H; rw [if_neg cj, if_pos (by rw [wi]; exact ci)]
    clear cA1 cA2 cB1 cB2 wi wj
    generalize pl i = p at *
    match p with
    | .inl v => exact ⟨fun E' hE' w hw => by rw [calmAt_put hsi h3]; exact H.1 E' hE' w hw, by rw [← pc]; exact H.2⟩
    | .inr tr => exact ⟨⟨H.1.1, fun E0 hD w hw => by rw [effAt_put hsi h3]; exact H.1.2 E0 hD w hw⟩, H.2.1, fun v E' ht => ⟨(H.2.2 v E' ht).1, by rw [← pc]; exact (H.2.2 v E' ht).2⟩⟩
  · rw [if_neg ci, if_pos (by rw [wj]; exact cj)] at H; rw [if_pos cj, cB2 ci]
    clear cA1 cA2 cB1 cB2 wi wj
    generalize pl j = q at *
    match q with
    | .inl u => exact ⟨fun E' hE' w hw => by have := H.1 E' hE' w hw; rwa [calmAt_put hsj h1] at this, by show K _ _; rw [← pc]; exact H.2⟩
    | .inr tr => exact ⟨⟨H.1.1, fun E0 hD w hw => by have := H.1.2 E0 hD w hw; rwa [effAt_put hsj h1] at this⟩, H.2.1, fun v E' ht => ⟨(H.2.2 v E' ht).1, by show K _ _; rw [← pc]; exact (H.2.2 v E' ht).2⟩⟩
  · rw [if_neg ci, if_neg (by rw [wj]; exact cj)] at H; rw [if_neg cj, if_neg (by rw [wi]; exact ci)]
    rw [← pc]; exact H
/-- what is listed has its forerunners listed -/
def Cls (md : Region.Mode) (ops : Array Oper) (listed : Array Bool) : Prop := ∀ j oj, ops[j]? = some oj → listed.getD j false = true → ∀ e ∈ oj.after, Region.binds md e = true → listed.getD e.on false = true
theorem Cls.set {listed : Array Bool} {i : Nat} (h : Cls md ops listed) (hi : i ∈ Region.ready md ops listed) : Cls md ops (listed.setIfInBounds i true) := fun j oj hj hl e he hb => by
  obtain ⟨_, oi, hoi, hall⟩ := mem_ready.1 hi
  have hkeep : listed.getD e.on false = true → (listed.setIfInBounds i true).getD e.on false = true := fun h => by
    by_cases hij : i = e.on
    · subst hij
      have hlt : e.on < listed.size := by
        rcases Nat.lt_or_ge e.on listed.size with h' | h'
        · exact h'
        · simp [Array.getElem?_eq_none h'] at h
      simp [hlt]
    · rw [getD_set_ne false hij]; exact h
  by_cases hij : i = j
  · subst hij
    have : oj = oi := Option.some.inj (hj.symm.trans hoi)
    subst this
    have h1 := hall e he hb
    refine hkeep ?_
    rcases Nat.lt_or_ge e.on listed.size with h' | h'
    · simp [h'] at h1 ⊢; exact h1
    · simp [Array.getElem?_eq_none h'] at h1
  · rw [getD_set_ne false hij] at hl
    exact hkeep (h j oj hj hl e he hb)
def waitsT (md : Region.Mode) (ops : Array Oper) (i : Nat) : Nat → Nat → Bool
  | 0, _ => false
  | f + 1, j => match ops[j]? with
    | some oj => oj.after.any fun e => Region.binds md e && (e.on == i || (decide (i < e.on) && waitsT md ops i f e.on))
    | none => false
theorem waitsT_listed {listed : Array Bool} {i : Nat} (hc : Cls md ops listed) : ∀ (f j : Nat), waitsT md ops i f j = true → (∀ oj, ops[j]? = some oj → ∀ e ∈ oj.after, Region.binds md e = true → listed.getD e.on false = true) → listed.getD i false = true
  | 0, j, h, _ => by cases h
  | f + 1, j, h, hd => by
    unfold waitsT at h
    split at h
    · rename_i oj hj
      obtain ⟨e, he, hb⟩ := Array.any_eq_true'.1 h
      simp only [Bool.and_eq_true, Bool.or_eq_true, beq_iff_eq, decide_eq_true_eq] at hb
      obtain ⟨hb1, hb2⟩ := hb
      have hl := hd oj hj e he hb1
      rcases hb2 with h1 | ⟨_, h1⟩
      · rw [← h1]; exact hl
      · exact waitsT_listed hc f e.on h1 fun oe hoe e' he' hb' => hc e.on oe hoe hl e' he' hb'
    · cases h
def effB (md : Region.Mode) (ops : Array Oper) (bs : List Bool) (fr : List (Nat × Nat)) : Bool := (List.range ops.size).all fun j => (!bs.getD j false) || (List.range j).all fun i => (!bs.getD i false) || (waitsT md ops i 40 j || fr.contains (i, j))
def Free {α : Type} (pl : Nat → Plan α) : List (Nat × Nat) → Prop
  | [] => True
  | p :: ps => Comm (pl p.1) (pl p.2) ∧ Free pl ps
theorem Free.get {α : Type} {pl : Nat → Plan α} : ∀ {fr : List (Nat × Nat)}, Free pl fr → ∀ p ∈ fr, Comm (pl p.1) (pl p.2)
  | [], _, p, h => by cases h
  | q :: fr, h, p, hp => by
    rcases List.mem_cons.1 hp with e | hp
    · subst e; exact h.1
    · exact Free.get h.2 p hp
theorem comm_1 {α : Type} {p q : Plan α} (h : isE p = false) : Comm p q := by
  cases p with
  | inl v => unfold Comm; trivial
  | inr t => simp [isE] at h
theorem comm_2 {α : Type} {p q : Plan α} (h : isE q = false) : Comm p q := by
  cases q with
  | inl v => cases p <;> (unfold Comm; trivial)
  | inr t => simp [isE] at h
def wpAnyE (P : Program) (md : Region.Mode) (ops : Array Oper) (Hd : α → World → Prop) (Nok : α → Prop) (pl : Nat → Plan α) (Q : Act → α → Prop) : Nat → Array Bool → Act → α → Prop
  | 0, listed, a, E => Region.ready md ops listed = [] ∧ Q a E
  | fuel + 1, listed, a, E =>
    (Region.ready md ops listed = [] → Q a E) ∧
    ∀ i ∈ Region.ready md ops listed, cOp P ops Hd Nok pl i (wpAnyE P md ops Hd Nok pl Q fuel (listed.setIfInBounds i true)) a E
theorem wpAny_of_calm {Q : Act → α → Prop} {Q' : Exit → Act → World → Prop} (hcl : Clo Hd) (hQ : ∀ a E w, Nok E → Hd E w → Q a E → Q' .normal a w) : ∀ (fuel : Nat) (listed : Array Bool) (a : Act) (E : α) (w : World), Nok E → Hd E w →
    wpAnyE P md ops Hd Nok pl Q fuel listed a E → wpAny P md ops Q' fuel listed a w
  | 0, _, _, _, _, hE, hw, h => ⟨h.1, hQ _ _ _ hE hw h.2⟩
  | fuel + 1, _, _, _, _, hE, hw, h => ⟨fun h0 => hQ _ _ _ hE hw (h.1 h0), fun i hi => wpOp_of_cOp hcl hE hw (fun a' E' w' hE' hw' => wpAny_of_calm hcl hQ fuel _ a' E' w' hE' hw') (h.2 i hi)⟩
theorem cOp_no {i : Nat} {oi : Oper} (hi : ops[i]? = some oi) (a : Act) (E : α) : ¬ cOp P ops Hd Nok pl i (fun _ _ => False) a E := by
  intro h
  unfold cOp at h
  simp only [hi] at h
  split at h
  · generalize pl i = p at h
    match p with
    | .inl v => exact h.2
    | .inr tr => obtain ⟨⟨ar, _⟩, ex, h⟩ := h; obtain ⟨v, E', ht⟩ := ex E ar; exact (h v E' ht).2
  · exact h
theorem low_set {listed : Array Bool} {m j : Nat} (h : listed.getD m true = true) : (listed.setIfInBounds j true).getD m true = true := by
  by_cases hjm : j = m
  · subst hjm
    rcases Nat.lt_or_ge j listed.size with h' | h'
    · simp [h']
    · simp [Array.getElem?_eq_none h']
  · rw [getD_set_ne true hjm]; exact h
theorem wpAnyE_first {Q : Act → α → Prop} (hok0 : ∀ E, Nok E) {i : Nat} {oi : Oper} (hi : ops[i]? = some oi) (hsel : ∀ (j : Nat) (o : Oper) cs b, ops[j]? = some o → o.op ≠ .select cs b)
    {k0 : Nat} (heff : ∀ listed, Cls md ops listed → (∀ m, m < k0 → listed.getD m true = true) → listed.getD i true = false → ∀ j ∈ Region.ready md ops listed, j ≠ i → Comm (pl i) (pl j)) :
    ∀ (fuel : Nat) (listed : Array Bool) (a : Act) (E : α), Cls md ops listed → (∀ m, m < k0 → listed.getD m true = true) →
      (∀ j oj, ops[j]? = some oj → j ≠ i → listed.getD j true = false → (∀ e ∈ oj.after, Region.binds md e = true → e.on ≠ i) → oi.apart ops oj = true) →
      i ∈ Region.ready md ops listed → cOp P ops Hd Nok pl i (wpAnyE P md ops Hd Nok pl Q fuel (listed.setIfInBounds i true)) a E →
      wpAnyE P md ops Hd Nok pl Q (fuel + 1) listed a E := by
  intro fuel
  induction fuel with
  | zero =>
    intro listed a E hcs hlow hfree hr H
    refine ⟨fun h => (by rw [h] at hr; cases hr), fun j hj => ?_⟩
    by_cases hji : j = i
    · subst hji; exact H
    · exfalso
      have hm := ready_mono hj hji
      exact cOp_no hi a E (cOp_mono (fun a E h => by rw [h.1] at hm; cases hm) H)
  | succ fuel ih =>
    intro listed a E hcs hlow hfree hr H
    refine ⟨fun h => (by rw [h] at hr; cases hr), fun j hj => ?_⟩
    by_cases hji : j = i
    · subst hji; exact H
    · obtain ⟨hjun, oj, hoj, hall⟩ := mem_ready.1 hj
      have h0 := (mem_ready.1 hr).1
      have hnot : ∀ e ∈ oj.after, Region.binds md e = true → e.on ≠ i := fun e he hb heq => by
        have h1 := hall e he hb
        rw [heq] at h1
        rcases Nat.lt_or_ge i listed.size with h' | h'
        · simp [h'] at h0 h1; rw [h0] at h1; cases h1
        · simp [Array.getElem?_eq_none h'] at h1
      have hap := hfree j oj hoj hji hjun hnot
      have hst := heff listed hcs hlow h0 j hj hji
      have h1 := cOp_mono (K' := fun a1 E1 => cOp P ops Hd Nok pl j (wpAnyE P md ops Hd Nok pl Q fuel ((listed.setIfInBounds i true).setIfInBounds j true)) a1 E1) (fun a E h => h.2 j (ready_mono hj hji)) H
      have h2 := cOp_swap hi hoj hap hok0 hst (fun cs b => hsel i oi cs b hi) (fun cs b => hsel j oj cs b hoj) h1
      refine cOp_mono (fun a' E' h3 => ih (listed.setIfInBounds j true) a' E' (hcs.set hj) (fun m hm => low_set (hlow m hm)) ?_ (ready_mono hr (Ne.symm hji)) ?_) h2
      · intro k ok hk hki hun hno
        refine hfree k ok hk hki ?_ hno
        by_cases hjk : j = k
        · subst hjk; exact hjun
        · rw [getD_set_ne true hjk] at hun; exact hun
      · rw [Array.setIfInBounds_comm _ _ hji]
        exact h3
theorem eff_apart {bs : List Bool} {k : Nat} {o : Oper} {fr : List (Nat × Nat)} (hst : effB md ops bs fr = true) (hfr : Free pl fr) (hag : ∀ i, isE (pl i) = true → bs.getD i false = true) (h0 : ops[k]? = some o) {listed' : Array Bool} (hc' : Cls md ops listed') (hlow : ∀ m, m < k → listed'.getD m true = true) (hun : listed'.getD k true = false) : ∀ j ∈ Region.ready md ops listed', j ≠ k → Comm (pl k) (pl j) := fun j hj hne => by
  cases hek : isE (pl k) with
  | false => exact comm_1 hek
  | true =>
    cases hej : isE (pl j) with
    | false => exact comm_2 hej
    | true =>
      have b1 := hag k hek
      have b2 := hag j hej
      obtain ⟨hjun, oj, hoj, hall⟩ := mem_ready.1 hj
      have hksz := (Array.getElem?_eq_some_iff.1 h0).1
      have hjsz := (Array.getElem?_eq_some_iff.1 hoj).1
      have hwt : ∀ i j : Nat, i < j → j < ops.size → bs.getD i false = true → bs.getD j false = true → waitsT md ops i 40 j = true ∨ (i, j) ∈ fr := fun i j hij hj hbi hbj => by
        unfold effB at hst
        simp only [List.all_eq_true, List.mem_range] at hst
        have h1 := hst j hj
        simp only [hbj, Bool.not_true, Bool.false_or, List.all_eq_true, List.mem_range] at h1
        have h2 := h1 i hij
        simpa only [hbi, Bool.not_true, Bool.false_or, Bool.or_eq_true, List.contains_iff_mem] using h2
      have hdep : ∀ oj', ops[j]? = some oj' → ∀ e ∈ oj'.after, Region.binds md e = true → listed'.getD e.on false = true := fun oj' ho e he hb => by
        have : oj' = oj := Option.some.inj (ho.symm.trans hoj)
        subst this
        have h1 := hall e he hb
        rcases Nat.lt_or_ge e.on listed'.size with h' | h'
        · simp [h'] at h1 ⊢; exact h1
        · simp [Array.getElem?_eq_none h'] at h1
      rcases Nat.lt_or_ge k j with hkj | hkj
      · rcases hwt k j hkj hjsz b1 b2 with hwt1 | hwt1
        case inr => exact hfr.get _ hwt1
        exfalso
        have h1 := waitsT_listed hc' 40 j hwt1 hdep
        rcases Nat.lt_or_ge k listed'.size with h' | h'
        · simp [h'] at hun h1; rw [hun] at h1; cases h1
        · simp [Array.getElem?_eq_none h'] at hun
      · exfalso
        have := hlow j (by omega)
        rw [hjun] at this; cases this
theorem wpAnyE_lex {Q : Act → α → Prop} (hok0 : ∀ E, Nok E) {bs : List Bool} (hs : Region.noSelect ops = true) {fr : List (Nat × Nat)} (hst : effB md ops bs fr = true) (hfr : Free pl fr) (hag : ∀ i, isE (pl i) = true → bs.getD i false = true) : ∀ (l : List Oper) (k : Nat) (listed : Array Bool) (a : Act) (E : α), Cls md ops listed → (∀ j, l[j]? = ops[k + j]?) → (∀ j, j < k → listed.getD j true = true) →
    Region.lexFrom md ops l.length k listed = true → wpLex P ops Hd Nok pl Q l k a E → wpAnyE P md ops Hd Nok pl Q l.length listed a E
  | [], _, _, _, _, _, _, _, hB, h => ⟨by simpa [Region.lexFrom] using hB, h⟩
  | o :: l, k, listed, a, E, hcs, hl, hk, hB, h => by
    have h0 : ops[k]? = some o := by simpa using (hl 0).symm
    simp only [List.length_cons, Region.lexFrom, Bool.and_eq_true] at hB
    obtain ⟨⟨hr, hf⟩, hB'⟩ := hB
    have hC : cOp P ops Hd Nok pl k (wpLex P ops Hd Nok pl Q l (k + 1)) a E := by unfold cOp; simp only [h0]; exact h
    have hr' : k ∈ Region.ready md ops listed := by simpa using hr
    refine wpAnyE_first hok0 h0 (Region.noSelect_spec hs) (k0 := k) (fun listed' hc' hlow hun j hj hne => ?_) l.length listed a E hcs hk (fun j oj hj hne hun hno => Region.free_spec h0 hf j oj hj hne hun hno) hr' ?_
    · exact eff_apart hst hfr hag h0 hc' hlow hun j hj hne
    · refine cOp_mono (fun a' E' h' => wpAnyE_lex hok0 hs hst hfr hag l (k + 1) _ a' E' (hcs.set hr') (fun j => by have := hl (j + 1); simpa [Nat.add_assoc, Nat.add_comm 1 j] using this) (fun j hj => ?_) hB' h') hC
      by_cases hjk : j = k
      · subst hjk
        have hlt : j < listed.size := by
          rcases Nat.lt_or_ge j listed.size with h' | h'
          · exact h'
          · have := mem_ready.1 (by simpa using hr : j ∈ Region.ready md ops listed)
            simp [Array.getElem?_eq_none h'] at this
        simp [hlt]
      · rw [getD_set_ne true (Ne.symm hjk)]; exact hk j (by omega)
end
/-- the state: new blocks that stand free; the blocks that effects write -/
abbrev St := List (Nat × TypeId × Array Value) × List (Nat × TypeId × Array Value)
def indP (t : List (Nat × TypeId × Array Value) → Value → List (Nat × TypeId × Array Value) → Prop) : Plan St := .inr (fun E E' => E'.2 = E.2, fun E v E' => ∃ N', t E.2 v N' ∧ E' = (E.1, N'))
def mkP (vm : Nat → Value) (T : TypeId) (cs : Array Value) : Plan St := .inr (fun _ _ => True, fun E v E' => ∃ g, v = vm g ∧ E' = ((g, T, cs) :: E.1, E.2))
def effP (t : St → Value → St → Prop) : Plan St := .inr (fun E E' => E' = E, t)
theorem comm_im {t : List (Nat × TypeId × Array Value) → Value → List (Nat × TypeId × Array Value) → Prop} {vm : Nat → Value} {T : TypeId} {cs : Array Value} : Comm (indP t) (mkP vm T cs) :=
  ⟨fun _ => rfl, fun _ => trivial, fun _ _ _ _ _ _ => trivial, fun E v E2 E' ⟨g, _, h⟩ h2 => by subst h; exact h2, fun E v' E2 v E3 ⟨g, h1, h2⟩ ⟨N', h3, h4⟩ => by subst h2; subst h4; exact ⟨(E.1, N'), ⟨N', h3, rfl⟩, g, h1, rfl⟩⟩
end Go.Proofs.Ytnafnhpajkhgkaa.CalmH
namespace Go.Proofs.Ytnafnhpajkhgkaa.Wk
set_option linter.unusedVariables false
set_option linter.unusedSimpArgs false
open Go Go.RowKit Mem Calm
variable {P : Program} {n : Nat} {O : List Nat} {w0 : World} {l : List (Nat × Value)} {N L : List (Nat × TypeId × Array Value)} {Q : Exit → Act → World → Prop} {ops : Array Oper} {o : Oper} {rest : List Oper} {k d : Nat} {v : Value} {x y : Operand} {pl : Nat → CalmH.Plan CalmH.St} {M : List (Nat × TypeId × Array Value)}
/-- M: new blocks that stand free; N: the blocks that effects write; L: the others. -/
def ZH (P : Program) (ops : Array Oper) (Q : Exit → Act → World → Prop) (n : Nat) (O : List Nat) (w0 : World) (pl : Nat → CalmH.Plan CalmH.St) (rest : List Oper) (k : Nat) (l : List (Nat × Value)) (M N L : List (Nat × TypeId × Array Value)) : Prop :=
  ∀ a, Fr n l a → CalmH.wpLex P ops (fun E w => Kn O w0 w (E.1 ++ (E.2 ++ L))) (fun _ => True) pl (fun a' E' => ∀ w', Kn O w0 w' (E'.1 ++ (E'.2 ++ L)) → Q .normal a' w') rest k a (M, N)
theorem zh_val (hg : o.guard = none) (hd : o.dst = some d) (hn : Nat.blt d n = true) (hr : ∀ M N, Rn P n O w0 l (M ++ (N ++ L)) o v) (hp : pl k = .inl v) (h : ZH P ops Q n O w0 pl rest (k + 1) ((d, v) :: l) M N L) : ZH P ops Q n O w0 pl (o :: rest) k l M N L := fun a hF => by
  unfold CalmH.wpLex
  rw [if_pos (by simp [Region.wanted, hg])]
  unfold CalmH.pOp
  rw [hp]
  refine ⟨fun E' hE' w hw => ?_, by rw [hd]; exact h _ (hF.put hn v)⟩
  unfold calmAt; rw [hr E'.1 E'.2 a w hF hw]; exact ⟨rfl, rfl⟩
/-- An effect on N, whatever stands free. -/
theorem zh_ind {ι : Type} (Pf : ι → Prop) (vf : ι → Value) (Nf : List (Nat × TypeId × Array Value) → ι → List (Nat × TypeId × Array Value)) (hg : o.guard = none) (hr : ∀ M a w, Fr n l a → Kn O w0 w (M ++ (N ++ L)) → CalmH.effAt P o a w (fun v w' => ∃ i, Pf i ∧ v = vf i ∧ Kn O w0 w' (M ++ (Nf N i ++ L)))) (hex : ∃ i, Pf i)
    (hp : pl k = CalmH.indP (fun N v N' => ∃ i, Pf i ∧ v = vf i ∧ N' = Nf N i)) (h : ∀ i, Pf i → ∀ a, Fr n l a → CalmH.wpLex P ops (fun E w => Kn O w0 w (E.1 ++ (E.2 ++ L))) (fun _ => True) pl (fun a' E' => ∀ w', Kn O w0 w' (E'.1 ++ (E'.2 ++ L)) → Q .normal a' w') rest (k + 1) (a.put o.dst (vf i)) (M, Nf N i)) : ZH P ops Q n O w0 pl (o :: rest) k l M N L := fun a hF => by
  unfold CalmH.wpLex
  rw [if_pos (by simp [Region.wanted, hg])]
  unfold CalmH.pOp
  rw [hp]
  unfold CalmH.indP
  obtain ⟨i0, h0⟩ := hex
  refine ⟨⟨rfl, fun E0 hD w hw => ?_⟩, fun E0 hD => ⟨_, _, _, ⟨i0, h0, rfl, rfl⟩, rfl⟩, fun v E' ⟨N', ⟨i, hi, hv, hN⟩, hE⟩ => ?_⟩
  · obtain ⟨M0, N0⟩ := E0
    simp only at hD hw
    subst hD
    have := hr M0 a w hF hw
    unfold CalmH.effAt at this ⊢
    generalize (execOp a.eval o).run P w = r at *
    cases r with
    | ok nx w' =>
      cases nx <;> simp only [CalmH.effUpon] at this ⊢
      case value u => obtain ⟨i, hi, hv, hK⟩ := this; exact ⟨_, ⟨_, ⟨i, hi, hv, rfl⟩, rfl⟩, hK⟩
      case skip => obtain ⟨i, hi, hv, hK⟩ := this; exact ⟨_, ⟨_, ⟨i, hi, hv, rfl⟩, rfl⟩, hK⟩
      case enter f args => exact ⟨this.1, this.2.mono fun e w'' ⟨v, he, i, hi, hv, hK⟩ => ⟨v, he, _, ⟨_, ⟨i, hi, hv, rfl⟩, rfl⟩, hK⟩⟩
    | halt x w' => simp only [CalmH.effUpon] at this
  · subst hv; subst hN; subst hE
    exact ⟨trivial, h i hi a hF⟩
/-- An effect that must stand where it stands. -/
theorem zh_eff {ι : Type} (Pf : ι → Prop) (vf : ι → Value) (Ef : CalmH.St → ι → CalmH.St) (hg : o.guard = none) (hr : ∀ a w, Fr n l a → Kn O w0 w (M ++ (N ++ L)) → CalmH.effAt P o a w (fun v w' => ∃ i, Pf i ∧ v = vf i ∧ Kn O w0 w' ((Ef (M, N) i).1 ++ ((Ef (M, N) i).2 ++ L)))) (hex : ∃ i, Pf i)
    (hp : pl k = CalmH.effP (fun E v E' => ∃ i, Pf i ∧ v = vf i ∧ E' = Ef E i)) (h : ∀ i, Pf i → ∀ a, Fr n l a → CalmH.wpLex P ops (fun E w => Kn O w0 w (E.1 ++ (E.2 ++ L))) (fun _ => True) pl (fun a' E' => ∀ w', Kn O w0 w' (E'.1 ++ (E'.2 ++ L)) → Q .normal a' w') rest (k + 1) (a.put o.dst (vf i)) (Ef (M, N) i)) : ZH P ops Q n O w0 pl (o :: rest) k l M N L := fun a hF => by
  unfold CalmH.wpLex
  rw [if_pos (by simp [Region.wanted, hg])]
  unfold CalmH.pOp
  rw [hp]
  unfold CalmH.effP
  obtain ⟨i0, h0⟩ := hex
  refine ⟨⟨rfl, fun E0 hD w hw => ?_⟩, fun E0 hD => ⟨_, _, i0, h0, rfl, rfl⟩, fun v E' ⟨i, hi, hv, hE⟩ => ?_⟩
  · subst hD
    have := hr a w hF hw
    unfold CalmH.effAt at this ⊢
    generalize (execOp a.eval o).run P w = r at *
    cases r with
    | ok nx w' =>
      cases nx <;> simp only [CalmH.effUpon] at this ⊢
      case value u => obtain ⟨i, hi, hv, hK⟩ := this; exact ⟨_, ⟨i, hi, hv, rfl⟩, hK⟩
      case skip => obtain ⟨i, hi, hv, hK⟩ := this; exact ⟨_, ⟨i, hi, hv, rfl⟩, hK⟩
      case enter f args => exact ⟨this.1, this.2.mono fun e w'' ⟨v, he, i, hi, hv, hK⟩ => ⟨v, he, _, ⟨i, hi, hv, rfl⟩, hK⟩⟩
    | halt x w' => simp only [CalmH.effUpon] at this
  · subst hv; subst hE
    exact ⟨trivial, h i hi a hF⟩
/-- A slice that is built and stands free. -/
theorem zh_mk {t : TypeId} {len : Nat} {T : TypeId} {cs : Array Value} {parts : Array (Nat × Operand)} {ps : List (Nat × Value)} (ho : o.op = .buildSlice t len parts) (hpp : evp l parts.toList = some ps) (hr : ∀ w, (Instr.buildSlice t len ps.toArray).run P w = .ok (.slice (some ⟨w.heap.size, 0, none⟩) len len) (w.alloc (.cells cs T (0, 0))))
    (hg : o.guard = none) (hd : o.dst = some d) (hn : Nat.blt d n = true) (hp : pl k = CalmH.mkP (fun g => .slice (some ⟨g, 0, none⟩) len len) T cs)
    (h : ∀ g, ZH P ops Q n O w0 pl rest (k + 1) ((d, .slice (some ⟨g, 0, none⟩) len len) :: l) ((g, T, cs) :: M) N L) : ZH P ops Q n O w0 pl (o :: rest) k l M N L := fun a hF => by
  unfold CalmH.wpLex
  rw [if_pos (by simp [Region.wanted, hg])]
  unfold CalmH.pOp
  rw [hp]
  unfold CalmH.mkP
  refine ⟨⟨trivial, fun E0 _ w hw => ?_⟩, fun E0 _ => ⟨_, _, 0, rfl, rfl⟩, fun v E' ⟨g, hv, hE⟩ => ?_⟩
  · have e : parts.map (fun p => (p.1, a.eval p.2)) = ps.toArray := by rw [← hF.evp hpp]; apply Array.ext'; simp
    have e' : (parts.map fun x => match x with | (i, x) => (i, a.eval x)) = ps.toArray := e
    have hx : (execOp a.eval o).run P w = .ok (.value (.slice (some ⟨w.heap.size, 0, none⟩) len len)) (w.alloc (.cells cs T (0, 0))) := by simp [execOp, ho, e', hr]
    unfold CalmH.effAt
    rw [hx]
    exact ⟨_, ⟨w.heap.size, rfl, rfl⟩, Own.new hw T _⟩
  · subst hv; subst hE
    rw [hd]
    exact ⟨trivial, h g _ (hF.put hn _)⟩
/-- the same where it belongs to what effects write -/
theorem zh_bsl {t : TypeId} {len : Nat} {T : TypeId} {cs : Array Value} {parts : Array (Nat × Operand)} {ps : List (Nat × Value)} (ho : o.op = .buildSlice t len parts) (hpp : evp l parts.toList = some ps) (hr : ∀ w, (Instr.buildSlice t len ps.toArray).run P w = .ok (.slice (some ⟨w.heap.size, 0, none⟩) len len) (w.alloc (.cells cs T (0, 0))))
    (hg : o.guard = none) (hd : o.dst = some d) (hn : Nat.blt d n = true) (hp : pl k = CalmH.indP (fun N v N' => ∃ g : Nat, True ∧ v = .slice (some ⟨g, 0, none⟩) len len ∧ N' = (g, T, cs) :: N))
    (h : ∀ g, ZH P ops Q n O w0 pl rest (k + 1) ((d, .slice (some ⟨g, 0, none⟩) len len) :: l) M ((g, T, cs) :: N) L) : ZH P ops Q n O w0 pl (o :: rest) k l M N L :=
  zh_ind (fun _ : Nat => True) (fun g => .slice (some ⟨g, 0, none⟩) len len) (fun N g => (g, T, cs) :: N) hg (fun M a w hF hw => by
    have e : parts.map (fun p => (p.1, a.eval p.2)) = ps.toArray := by rw [← hF.evp hpp]; apply Array.ext'; simp
    have e' : (parts.map fun x => match x with | (i, x) => (i, a.eval x)) = ps.toArray := e
    have hx : (execOp a.eval o).run P w = .ok (.value (.slice (some ⟨w.heap.size, 0, none⟩) len len)) (w.alloc (.cells cs T (0, 0))) := by simp [execOp, ho, e', hr]
    unfold CalmH.effAt
    rw [hx]
    exact ⟨w.heap.size, trivial, rfl, Kn.perm (Own.new hw T _) List.perm_middle.symm⟩) ⟨0, trivial⟩ hp (fun g _ a hF => by rw [hd]; exact h g _ (hF.put hn _))
/-- A call that writes, where it stands. -/
theorem zh_write {ι : Type} {f : FuncId} {fn : Func} {xs : Array Operand} {ts : Array TypeId} {vs : List Value} (Pf : ι → Prop) (vf : ι → Value) (Ef : CalmH.St → ι → CalmH.St) (hf : P.funcs[f]? = some fn) (hname : (fn.name == "runtime.NumGoroutine") = false) (hb : fn.body.isSome = true) (hg : o.guard = none) (hd : o.dst = some d) (hn : Nat.blt d n = true)
    (hop : o.op = .call { callee := .value (.func f), args := xs, argTypes := ts }) (hargs : evs l xs.toList = some vs)
    (hc : ∀ w, Kn O w0 w (M ++ (N ++ L)) → Calls P f vs.toArray w fun e w' => ∃ i, Pf i ∧ e = .returned (vf i) ∧ Kn O w0 w' ((Ef (M, N) i).1 ++ ((Ef (M, N) i).2 ++ L))) (hex : ∃ i, Pf i) (hp : pl k = CalmH.effP (fun E v E' => ∃ i, Pf i ∧ v = vf i ∧ E' = Ef E i)) (h : ∀ i, Pf i → ZH P ops Q n O w0 pl rest (k + 1) ((d, vf i) :: l) (Ef (M, N) i).1 (Ef (M, N) i).2 L) : ZH P ops Q n O w0 pl (o :: rest) k l M N L :=
  zh_eff Pf vf Ef hg (fun a w hF hw => by
    unfold CalmH.effAt
    rw [run_callc (caps := []) hf hname hb hop rfl (hF.evals hargs) w]
    refine ⟨rfl, ?_⟩
    rw [List.append_nil]
    exact (hc w hw).mono fun e w'' ⟨i, hP, he, hK⟩ => ⟨_, he, i, hP, rfl, hK⟩) hex hp (fun i hi a hF => by rw [hd]; exact h i hi _ (hF.put hn _))
/-- A callee that makes a slice, whatever stands free. -/
theorem zh_new {f : FuncId} {fn : Func} {xs : Array Operand} {ts : Array TypeId} {vs : List Value} {T : TypeId} {sz m : Nat} {cs : List Value} (hf : P.funcs[f]? = some fn) (hname : (fn.name == "runtime.NumGoroutine") = false) (hb : fn.body.isSome = true) (hg : o.guard = none) (hd : o.dst = some d) (hn : Nat.blt d n = true)
    (hop : o.op = .call { callee := .value (.func f), args := xs, argTypes := ts }) (hargs : evs l xs.toList = some vs) (hc : ∀ M w, Kn O w0 w (M ++ (N ++ L)) → Calls P f vs.toArray w (NewS T sz cs w)) (hlen : cs.length = m * sz) (hsz : 0 < sz) (hex : m ≤ maxLen)
    (hp : pl k = CalmH.indP (fun N v N' => ∃ i : Nat × Nat × Array Value, Ap sz m i.2.1 i.2.2 cs ∧ v = .slice (some ⟨i.1, 0, none⟩) m i.2.1 ∧ N' = (i.1, T, i.2.2) :: N))
    (h : ∀ g cap cur, Ap sz m cap cur cs → ZH P ops Q n O w0 pl rest (k + 1) ((d, .slice (some ⟨g, 0, none⟩) m cap) :: l) M ((g, T, cur) :: N) L) : ZH P ops Q n O w0 pl (o :: rest) k l M N L :=
  zh_ind (fun i : Nat × Nat × Array Value => Ap sz m i.2.1 i.2.2 cs) (fun i => .slice (some ⟨i.1, 0, none⟩) m i.2.1) (fun N i => (i.1, T, i.2.2) :: N) hg (fun M a w hF hw => by
    unfold CalmH.effAt
    rw [run_callc (caps := []) hf hname hb hop rfl (hF.evals hargs) w]
    refine ⟨rfl, ?_⟩
    rw [List.append_nil]
    refine (hc M w hw).mono fun e w' ⟨g, k', cap, cur, he, hA, hge, hat, hB⟩ => ?_
    have hk : k' = m := by have h1 := hA.len; rw [hlen] at h1; exact (Nat.eq_of_mul_eq_mul_right hsz h1).symm
    subst hk
    exact ⟨_, he, (g, cap, cur), hA, rfl, Kn.perm (Kn.add (Own.ext hw hB) (Nat.le_trans hw.size hge) (fun b hb => by
        have hlt := (Array.getElem?_eq_some_iff.1 (hw.has b hb)).1; omega) hat) List.perm_middle.symm⟩)
    ⟨(0, m, cs.toArray), ⟨hlen, Nat.le_refl _, hex, by simp [hlen], by simp [← hlen]⟩⟩ hp (fun i hi a hF => by rw [hd]; exact h i.1 i.2.1 i.2.2 hi _ (hF.put hn _))
theorem run_appH {t e ty : TypeId} {zz : Value} {sz bytes : Nat} {pre post : List (Nat × TypeId × Array Value)} (ht : P.underlying t = some (.slice e)) (hi : (P.info? e).map (fun i => (i.zero, i.size, i.bytes)) = some (some zz, sz, bytes)) (hzs : zz.cells.size = sz) (hsz : 0 < sz)
    {g kk cap : Nat} {cur : Array Value} {cs : List Value} (hA : Ap sz kk cap cur cs) {b off m c : Nat} {news : List Value} {w : World} (hw : Kn O w0 w (pre ++ (g, e, cur) :: post)) (hO : ∀ k ∈ O, ∃ x ∈ pre ++ post, x.1 = k) (hS : ∀ (j : Nat) (u : Value), news[j]? = some u → w.cell? ((⟨b, off, none⟩ : Addr).add j) = some u) (hl : news.length = m * sz) (h1 : ∀ u ∈ news, u.oneCell' = true)
    (h63 : kk + m ≤ maxLen) (hbytes : (kk + m) * bytes ≤ 140737488355328) : ∃ g' cap' cur' w', (Builtin.append_ #[t, t] ty #[.slice (some ⟨g, 0, none⟩) kk cap, .slice (some ⟨b, off, none⟩) m c]).run P w = .ok (.slice (some ⟨g', 0, none⟩) (kk + m) cap') w' ∧ Ap sz (kk + m) cap' cur' (cs ++ news) ∧ Kn O w0 w' (pre ++ (g', e, cur') :: post) :=
  run_appA (P := P) (ty := ty) (c := c) ht hi hzs hsz hA hw (fun hk => by
    obtain ⟨y, hy, e⟩ := hO _ hk
    have hn := (Kn.perm hw List.perm_middle).nodup
    rw [List.map_cons, List.nodup_cons] at hn
    exact hn.1 (List.mem_map.2 ⟨y, hy, e⟩)) hl hS h1 h63 hbytes
theorem ap_ex {sz m kk cap : Nat} {cur : Array Value} {cs news : List Value} (hA : Ap sz kk cap cur cs) (hl : news.length = m * sz) (h63 : kk + m ≤ maxLen) : Ap sz (kk + m) (kk + m) (cs ++ news).toArray (cs ++ news) := by
  have h : (cs ++ news).length = (kk + m) * sz := by rw [List.length_append, hA.len, hl, Nat.add_mul]
  refine ⟨h, Nat.le_refl _, h63, by simpa using h, ?_⟩
  show List.take ((kk + m) * sz) (cs ++ news) = cs ++ news
  rw [← h, List.take_length]
/-- append to the first block of N, of what stands whatever stands free -/
theorem zh_app {t e : TypeId} {zz : Value} {sz bytes : Nat} {post : List (Nat × TypeId × Array Value)} (ho : o.op = .call { callee := .builtin .append, args := #[x, y], argTypes := #[t, t] }) (ht : P.underlying t = some (.slice e)) (hi : (P.info? e).map (fun i => (i.zero, i.size, i.bytes)) = some (some zz, sz, bytes)) (hzs : zz.cells.size = sz) (hsz : 0 < sz)
    {g kk cap : Nat} {cur : Array Value} {cs : List Value} (hA : Ap sz kk cap cur cs) {b off m c : Nat} {news : List Value} (hO : ∀ k ∈ O, ∃ x ∈ post ++ L, x.1 = k) (hS : ∀ M w, Kn O w0 w (M ++ (((g, e, cur) :: post) ++ L)) → ∀ (j : Nat) (u : Value), news[j]? = some u → w.cell? ((⟨b, off, none⟩ : Addr).add j) = some u) (hl : news.length = m * sz) (hx : ev l x = some (.slice (some ⟨g, 0, none⟩) kk cap)) (hy : ev l y = some (.slice (some ⟨b, off, none⟩) m c)) (h1 : ∀ u ∈ news, u.oneCell' = true)
    (h63 : kk + m ≤ maxLen) (hbytes : (kk + m) * bytes ≤ 140737488355328) (hg : o.guard = none) (hd : o.dst = some d) (hdn : Nat.blt d n = true)
    (hp : pl k = CalmH.indP (fun N v N' => ∃ i : Nat × Nat × Array Value, Ap sz (kk + m) i.2.1 i.2.2 (cs ++ news) ∧ v = .slice (some ⟨i.1, 0, none⟩) (kk + m) i.2.1 ∧ N' = (i.1, e, i.2.2) :: N.tail))
    (h : ∀ g' cap' cur', Ap sz (kk + m) cap' cur' (cs ++ news) → ZH P ops Q n O w0 pl rest (k + 1) ((d, .slice (some ⟨g', 0, none⟩) (kk + m) cap') :: l) M ((g', e, cur') :: post) L) : ZH P ops Q n O w0 pl (o :: rest) k l M ((g, e, cur) :: post) L :=
  zh_ind (fun i : Nat × Nat × Array Value => Ap sz (kk + m) i.2.1 i.2.2 (cs ++ news)) (fun i => .slice (some ⟨i.1, 0, none⟩) (kk + m) i.2.1) (fun N i => (i.1, e, i.2.2) :: N.tail) hg (fun M a w hF hw => by
    obtain ⟨g', cap', cur', w', hr, hA', hL'⟩ := run_appH (P := P) (ty := o.type) (c := c) (pre := M) (post := post ++ L) ht hi hzs hsz hA hw (fun k hk => by obtain ⟨x, hx, e⟩ := hO k hk; exact ⟨x, List.mem_append_right _ hx, e⟩) (hS M w hw) hl h1 h63 hbytes
    unfold CalmH.effAt execOp
    simp only [ho, resolve, invoke, builtin, Sem.run_bind, Sem.run_pure, Result.andThen_ok, List.map_toArray, List.map_cons, List.map_nil, hF.eval hx, hF.eval hy, hr]
    exact ⟨(g', cap', cur'), hA', rfl, hL'⟩) ⟨(0, kk + m, (cs ++ news).toArray), ap_ex hA hl h63⟩ hp (fun i hi a hF => by rw [hd]; exact h i.1 i.2.1 i.2.2 hi _ (hF.put hdn _))
/-- append to the first block of N, of what may stand free -/
theorem zh_app2 {t e : TypeId} {zz : Value} {sz bytes : Nat} {post : List (Nat × TypeId × Array Value)} (ho : o.op = .call { callee := .builtin .append, args := #[x, y], argTypes := #[t, t] }) (ht : P.underlying t = some (.slice e)) (hi : (P.info? e).map (fun i => (i.zero, i.size, i.bytes)) = some (some zz, sz, bytes)) (hzs : zz.cells.size = sz) (hsz : 0 < sz)
    {g kk cap : Nat} {cur : Array Value} {cs : List Value} (hA : Ap sz kk cap cur cs) {b off m c : Nat} {news : List Value} (hO : ∀ k ∈ O, ∃ x ∈ post ++ L, x.1 = k) (hS : ∀ w, Kn O w0 w (M ++ (((g, e, cur) :: post) ++ L)) → ∀ (j : Nat) (u : Value), news[j]? = some u → w.cell? ((⟨b, off, none⟩ : Addr).add j) = some u) (hl : news.length = m * sz) (hx : ev l x = some (.slice (some ⟨g, 0, none⟩) kk cap)) (hy : ev l y = some (.slice (some ⟨b, off, none⟩) m c)) (h1 : ∀ u ∈ news, u.oneCell' = true)
    (h63 : kk + m ≤ maxLen) (hbytes : (kk + m) * bytes ≤ 140737488355328) (hg : o.guard = none) (hd : o.dst = some d) (hdn : Nat.blt d n = true)
    (hp : pl k = CalmH.effP (fun E v E' => ∃ i : Nat × Nat × Array Value, Ap sz (kk + m) i.2.1 i.2.2 (cs ++ news) ∧ v = .slice (some ⟨i.1, 0, none⟩) (kk + m) i.2.1 ∧ E' = (E.1, (i.1, e, i.2.2) :: E.2.tail)))
    (h : ∀ g' cap' cur', Ap sz (kk + m) cap' cur' (cs ++ news) → ZH P ops Q n O w0 pl rest (k + 1) ((d, .slice (some ⟨g', 0, none⟩) (kk + m) cap') :: l) M ((g', e, cur') :: post) L) : ZH P ops Q n O w0 pl (o :: rest) k l M ((g, e, cur) :: post) L :=
  zh_eff (fun i : Nat × Nat × Array Value => Ap sz (kk + m) i.2.1 i.2.2 (cs ++ news)) (fun i => .slice (some ⟨i.1, 0, none⟩) (kk + m) i.2.1) (fun E i => (E.1, (i.1, e, i.2.2) :: E.2.tail)) hg (fun a w hF hw => by
    obtain ⟨g', cap', cur', w', hr, hA', hL'⟩ := run_appH (P := P) (ty := o.type) (c := c) (pre := M) (post := post ++ L) ht hi hzs hsz hA hw (fun k hk => by obtain ⟨x, hx, e⟩ := hO k hk; exact ⟨x, List.mem_append_right _ hx, e⟩) (hS w hw) hl h1 h63 hbytes
    unfold CalmH.effAt execOp
    simp only [ho, resolve, invoke, builtin, Sem.run_bind, Sem.run_pure, Result.andThen_ok, List.map_toArray, List.map_cons, List.map_nil, hF.eval hx, hF.eval hy, hr]
    exact ⟨(g', cap', cur'), hA', rfl, hL'⟩) ⟨(0, kk + m, (cs ++ news).toArray), ap_ex hA hl h63⟩ hp (fun i hi a hF => by rw [hd]; exact h i.1 i.2.1 i.2.2 hi _ (hF.put hdn _))
theorem zh_nil (h : Wk.E Q n O w0 .normal l (M ++ (N ++ L))) : ZH P ops Q n O w0 pl [] k l M N L := fun a hF w' hw => h a w' hF hw
theorem c_drawH {id : Nat} {r : List Oper} (bs : List Bool) (fr : List (Nat × Nat)) (N L' : List (Nat × TypeId × Array Value)) (pl : List (CalmH.Plan CalmH.St)) (hm : P.follows .mixedOrders = true) (hB : Region.lexB .any r.toArray = true) (hst : CalmH.effB .any r.toArray bs fr = true) (hag : CalmH.Agree pl bs) (hfr : CalmH.Free (fun i => pl.getD i (.inl undef)) fr) (hperm : L.Perm (N ++ L'))
    (h : ZH P r.toArray Q n O w0 (fun i => pl.getD i (.inl undef)) r 0 l [] N L') : C P Q n O w0 (.region id r.toArray true) l L := fun a w hF hL0 => by
  have hL : Kn O w0 w (N ++ L') := Kn.perm hL0 hperm
  have hx := h a hF
  simp only [Region.lexB, Bool.and_eq_true] at hB
  have hcl : CalmH.Clo (fun (E : CalmH.St) w => Kn O w0 w (E.1 ++ (E.2 ++ L'))) := fun E w w' hw hb => Own.ext hw hb
  have H := CalmH.wpAnyE_lex (P := P) (md := .any) (fun _ => trivial) hB.1 hst hfr (fun i hi => hag.get i hi) r 0 (Array.replicate r.toArray.size false) a ([], N) (fun j oj _ hl => by rw [getD_replicate_false] at hl; cases hl) (by simp) (fun j hj => by omega) (by simpa using hB.2) hx
  refine wp_region_any hm ?_
  have := CalmH.wpAny_of_calm (P := P) (Q' := Q) hcl (fun a' E' w' hE' hw' hq => hq w' hw') _ _ _ _ { w with drawn := w.drawn + 1 } trivial (show Kn O w0 { w with drawn := w.drawn + 1 } ([] ++ (N ++ L')) from ⟨hL.os, hL.tape, hL.output, hL.size, hL.base, hL.keep, hL.low, hL.has, hL.nodup⟩) H
  simpa using this
end Go.Proofs.Ytnafnhpajkhgkaa.Wk
