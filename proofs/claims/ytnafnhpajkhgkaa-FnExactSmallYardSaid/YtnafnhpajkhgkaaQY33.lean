import Derived.Test.YtnafnhpajkhgkaaQY13
/- A region that draws its order: operations that are calm whatever the others do, and effects (stores into blocks of the walk's own, calls that write, append) that wait for each other. Plain theorems; no condition. -/
namespace Go.Proofs.Ytnafnhpajkhgkaa.CalmE
set_option linter.unusedVariables false
set_option linter.unusedSimpArgs false
open Go Go.RowKit Mem Calm
/-- A plan: what a calm operation yields; what an effect may yield and leave. -/
abbrev Plan (α : Type) := Value ⊕ (Value → α → Prop)
def isE {α : Type} : Plan α → Bool
  | .inl _ => false
  | .inr _ => true
def Agree {α : Type} : List (Plan α) → List Bool → Prop
  | [], _ => True
  | .inl _ :: ps, _ :: bs => Agree ps bs
  | .inr _ :: ps, b :: bs => b = true ∧ Agree ps bs
  | _ :: _, [] => False
theorem Agree.get {α : Type} : ∀ {ps : List (Plan α)} {bs : List Bool}, Agree ps bs → ∀ (i : Nat), isE (ps.getD i (.inl undef)) = true → bs.getD i false = true
  | [], bs, _, i, h => by simp [isE] at h
  | .inl v :: ps, b :: bs, ha, 0, h => by simp [isE] at h
  | .inr v :: ps, b :: bs, ha, 0, h => by simpa using ha.1
  | .inl v :: ps, b :: bs, ha, i + 1, h => by simpa using Agree.get (ps := ps) (bs := bs) ha i (by simpa using h)
  | .inr v :: ps, b :: bs, ha, i + 1, h => by simpa using Agree.get (ps := ps) (bs := bs) ha.2 i (by simpa using h)
  | .inl v :: ps, [], ha, i, h => by cases ha
  | .inr v :: ps, [], ha, i, h => by cases ha
section
variable {P : Program} {ops : Array Oper} {md : Region.Mode} {α : Type} {Hd : α → World → Prop} {Nok : α → Prop} {pl : Nat → Plan α}
def effUpon (P : Program) (w : World) (R : Value → World → Prop) : Result Next → Prop
  | .ok (.value u) w' => R u w'
  | .ok .skip w' => R undef w'
  | .ok (.enter f args) w' => w' = w ∧ Calls P f args w (fun e w'' => ∃ v, e = .returned v ∧ R v w'')
  | _ => False
def effAt (P : Program) (o : Oper) (a : Act) (w : World) (R : Value → World → Prop) : Prop := effUpon P w R ((execOp a.eval o).run P w)
def pOp (P : Program) (Hd : α → World → Prop) (Nok : α → Prop) (o : Oper) (p : Plan α) (K : Act → α → Prop) (a : Act) (E : α) : Prop :=
  match p with
  | .inl v => (∀ E', Nok E' → ∀ w, Hd E' w → calmAt P o a w v) ∧ K (a.put o.dst v) E
  | .inr tr => (∀ w, Hd E w → effAt P o a w (fun v w' => ∃ E', tr v E' ∧ Hd E' w')) ∧ (∃ v E', tr v E') ∧ ∀ v E', tr v E' → Nok E' ∧ K (a.put o.dst v) E'
def cOp (P : Program) (ops : Array Oper) (Hd : α → World → Prop) (Nok : α → Prop) (pl : Nat → Plan α) (i : Nat) (K : Act → α → Prop) (a : Act) (E : α) : Prop :=
  match ops[i]? with
  | none => K a E
  | some o => if Region.wanted o (yielded ops a.tmps) then pOp P Hd Nok o (pl i) K a E else K (a.put o.dst undef) E
theorem pOp_mono {o : Oper} {p : Plan α} {a : Act} {E : α} {K K' : Act → α → Prop} (h : ∀ a E, K a E → K' a E) (hh : pOp P Hd Nok o p K a E) : pOp P Hd Nok o p K' a E := by
  match p with
  | .inl v => exact ⟨hh.1, h _ _ hh.2⟩
  | .inr tr => exact ⟨hh.1, hh.2.1, fun v E' ht => ⟨(hh.2.2 v E' ht).1, h _ _ (hh.2.2 v E' ht).2⟩⟩
theorem cOp_mono {i : Nat} {a : Act} {E : α} {K K' : Act → α → Prop} (h : ∀ a E, K a E → K' a E) (hh : cOp P ops Hd Nok pl i K a E) : cOp P ops Hd Nok pl i K' a E := by
  unfold cOp at *
  split
  · rename_i ho; simp only [ho] at hh; exact h _ _ hh
  · rename_i o ho
    simp only [ho] at hh
    split
    · rename_i hw; simp only [hw, if_true] at hh; exact pOp_mono h hh
    · rename_i hw; simp only [hw] at hh; exact h _ _ hh
def wpLex (P : Program) (ops : Array Oper) (Hd : α → World → Prop) (Nok : α → Prop) (pl : Nat → Plan α) (Q : Act → α → Prop) : List Oper → Nat → Act → α → Prop
  | [], _, a, E => Q a E
  | o :: rest, k, a, E => if Region.wanted o (yielded ops a.tmps) then pOp P Hd Nok o (pl k) (wpLex P ops Hd Nok pl Q rest (k + 1)) a E else wpLex P ops Hd Nok pl Q rest (k + 1) (a.put o.dst undef) E
def Clo (Hd : α → World → Prop) : Prop := ∀ E w w', Hd E w → Below w.heap.size w w' → Hd E w'
theorem wp_of_pOp {o : Oper} {p : Plan α} {a : Act} {E : α} {w : World} {K : Act → α → Prop} {K' : Act → World → Prop} {Q' : Exit → Act → World → Prop} (hcl : Clo Hd) (hE : Nok E) (hw : Hd E w)
    (h : ∀ a E w, Nok E → Hd E w → K a E → K' a w) (hh : pOp P Hd Nok o p K a E) : o.wp P a w K' Q' := by
  match p with
  | .inl v =>
    obtain ⟨h1, h2⟩ := hh
    have h3 := h1 E hE w hw
    unfold calmAt at h3
    unfold Oper.wp
    generalize (execOp a.eval o).run P w = r at *
    cases r with
    | ok n w' =>
      cases n <;> simp only [calmUpon] at h3 <;> simp only [Oper.upon]
      case value u => obtain ⟨rfl, rfl⟩ := h3; exact h _ _ _ hE hw h2
      case enter f args =>
        obtain ⟨rfl, hc⟩ := h3
        exact hc.mono fun e w'' ⟨he, hb⟩ => by subst he; exact h _ _ _ hE (hcl _ _ _ hw hb) h2
    | halt x w' => simp only [calmUpon] at h3
  | .inr tr =>
    obtain ⟨h1, _, h2⟩ := hh
    have h3 := h1 w hw
    unfold effAt at h3
    unfold Oper.wp
    generalize (execOp a.eval o).run P w = r at *
    cases r with
    | ok n w' =>
      cases n <;> simp only [effUpon] at h3 <;> simp only [Oper.upon]
      case value u => obtain ⟨E', ht, hR⟩ := h3; exact h _ _ _ (h2 _ _ ht).1 hR (h2 _ _ ht).2
      case skip => obtain ⟨E', ht, hR⟩ := h3; exact h _ _ _ (h2 _ _ ht).1 hR (h2 _ _ ht).2
      case enter f args =>
        obtain ⟨rfl, hc⟩ := h3
        exact hc.mono fun e w'' ⟨v, he, E', ht, hR⟩ => by subst he; exact h _ _ _ (h2 _ _ ht).1 hR (h2 _ _ ht).2
    | halt x w' => simp only [effUpon] at h3
theorem wpOp_of_cOp {i : Nat} {a : Act} {E : α} {w : World} {K : Act → α → Prop} {K' : Act → World → Prop} {Q' : Exit → Act → World → Prop} (hcl : Clo Hd) (hE : Nok E) (hw : Hd E w)
    (h : ∀ a E w, Nok E → Hd E w → K a E → K' a w) (hh : cOp P ops Hd Nok pl i K a E) : wpOp P ops Q' i K' a w := by
  unfold cOp at hh
  unfold wpOp
  split
  · rename_i ho; simp only [ho] at hh; exact h _ _ _ hE hw hh
  · rename_i o ho
    simp only [ho] at hh
    split
    · rename_i hwd; simp only [hwd, if_true] at hh; exact .inl (wp_of_pOp hcl hE hw h hh)
    · rename_i hwd; simp only [hwd] at hh; exact h _ _ _ hE hw hh
theorem effAt_put {oj : Oper} (hsj : ∀ cs b, oj.op ≠ .select cs b) {a : Act} {d : Option Tmp} {u : Value} {R : Value → World → Prop} (h : ∀ t, d = some t → t ∉ oj.looksAt ops) {w : World} : effAt P oj (a.put d u) w R = effAt P oj a w R := by
  unfold effAt; rw [execOp_put oj hsj a d u h]
theorem pOp_congr {o : Oper} {p : Plan α} {a : Act} {E : α} {K K' : Act → α → Prop} (h : ∀ u E, K (a.put o.dst u) E = K' (a.put o.dst u) E) : pOp P Hd Nok o p K a E = pOp P Hd Nok o p K' a E := by
  match p with
  | .inl v => simp only [pOp, h]
  | .inr vf => simp only [pOp, h]
theorem cOp_swap {i j : Nat} {oi oj : Oper} (hi : ops[i]? = some oi) (hj : ops[j]? = some oj) (hap : oi.apart ops oj = true) (hnot : isE (pl i) = false ∨ isE (pl j) = false)
    (hsi : ∀ cs b, oi.op ≠ .select cs b) (hsj : ∀ cs b, oj.op ≠ .select cs b) {K : Act → α → Prop} {a : Act} {E : α}
    (H : cOp P ops Hd Nok pl i (fun a1 E1 => cOp P ops Hd Nok pl j K a1 E1) a E) : cOp P ops Hd Nok pl j (fun a1 E1 => cOp P ops Hd Nok pl i K a1 E1) a E := by
  obtain ⟨h1, h2, h3⟩ := Oper.apart_spec hap
  have wj : ∀ a u, Region.wanted oj (yielded ops (Act.put a oi.dst u).tmps) = Region.wanted oj (yielded ops a.tmps) := fun a u => wanted_put oj a oi.dst u h1
  have wi : ∀ a u, Region.wanted oi (yielded ops (Act.put a oj.dst u).tmps) = Region.wanted oi (yielded ops a.tmps) := fun a u => wanted_put oi a oj.dst u h3
  have pc : ∀ (a : Act) (v u : Value), (a.put oi.dst v).put oj.dst u = (a.put oj.dst u).put oi.dst v := fun a v u => Act.put_comm a v u h2
  unfold cOp at H ⊢
  simp only [hi, hj] at H ⊢
  have cA1 : ∀ {K}, Region.wanted oj (yielded ops a.tmps) = true → pOp P Hd Nok oi (pl i) (fun a1 E1 => if Region.wanted oj (yielded ops a1.tmps) = true then pOp P Hd Nok oj (pl j) K a1 E1 else K (a1.put oj.dst undef) E1) a E = pOp P Hd Nok oi (pl i) (fun a1 E1 => pOp P Hd Nok oj (pl j) K a1 E1) a E := fun c => pOp_congr fun u E => by simp only [wj, c, if_true]
  have cA2 : ∀ {K}, ¬ Region.wanted oj (yielded ops a.tmps) = true → pOp P Hd Nok oi (pl i) (fun a1 E1 => if Region.wanted oj (yielded ops a1.tmps) = true then pOp P Hd Nok oj (pl j) K a1 E1 else K (a1.put oj.dst undef) E1) a E = pOp P Hd Nok oi (pl i) (fun a1 E1 => K (a1.put oj.dst undef) E1) a E := fun c => pOp_congr fun u E => by simp only [wj, c, if_false, Bool.false_eq_true]
  have cB1 : ∀ {K}, Region.wanted oi (yielded ops a.tmps) = true → pOp P Hd Nok oj (pl j) (fun a1 E1 => if Region.wanted oi (yielded ops a1.tmps) = true then pOp P Hd Nok oi (pl i) K a1 E1 else K (a1.put oi.dst undef) E1) a E = pOp P Hd Nok oj (pl j) (fun a1 E1 => pOp P Hd Nok oi (pl i) K a1 E1) a E := fun c => pOp_congr fun u E => by simp only [wi, c, if_true]
  have cB2 : ∀ {K}, ¬ Region.wanted oi (yielded ops a.tmps) = true → pOp P Hd Nok oj (pl j) (fun a1 E1 => if Region.wanted oi (yielded ops a1.tmps) = true then pOp P Hd Nok oi (pl i) K a1 E1 else K (a1.put oi.dst undef) E1) a E = pOp P Hd Nok oj (pl j) (fun a1 E1 => K (a1.put oi.dst undef) E1) a E := fun c => pOp_congr fun u E => by simp only [wi, c, if_false, Bool.false_eq_true]
  by_cases ci : Region.wanted oi (yielded ops a.tmps) = true <;> by_cases cj : Region.wanted oj (yielded ops a.tmps) = true
  · rw [if_pos ci, cA1 cj] at H; rw [if_pos cj, cB1 ci]
    clear cA1 cA2 cB1 cB2 wi wj
    generalize pl i = p at *
    generalize pl j = q at *
    match p, q with
    | .inl v, .inl u =>
      obtain ⟨a1, a2, a3⟩ := H
      exact ⟨fun E' hE' w hw => by have := a2 E' hE' w hw; rwa [calmAt_put hsj h1] at this, fun E' hE' w hw => by rw [calmAt_put hsi h3]; exact a1 E' hE' w hw, by rw [← pc]; exact a3⟩
    | .inl v, .inr tr =>
      obtain ⟨a1, a2, ex, a3⟩ := H
      exact ⟨fun w hw => by have := a2 w hw; rwa [effAt_put hsj h1] at this, ex, fun v' E' ht => ⟨(a3 v' E' ht).1, fun E' hE' w hw => by rw [calmAt_put hsi h3]; exact a1 E' hE' w hw, by rw [← pc]; exact (a3 v' E' ht).2⟩⟩
    | .inr tr, .inl u =>
      obtain ⟨a1, ⟨v0, E0, ht0⟩, a2⟩ := H
      exact ⟨fun E' hE' w hw => by have := (a2 v0 E0 ht0).2.1 E' hE' w hw; rwa [calmAt_put hsj h1] at this, fun w hw => by rw [effAt_put hsi h3]; exact a1 w hw, ⟨v0, E0, ht0⟩, fun v E' ht => ⟨(a2 v E' ht).1, by rw [← pc]; exact (a2 v E' ht).2.2⟩⟩
    | .inr tr, .inr ur =>
      rcases hnot with h | h
      · cases h
      · cases h
  · rw [if_pos ci, cA2 cj] at H; rw [if_neg cj, if_pos (by rw [wi]; exact ci)]
    clear cA1 cA2 cB1 cB2 wi wj
    generalize pl i = p at *
    match p with
    | .inl v => exact ⟨fun E' hE' w hw => by rw [calmAt_put hsi h3]; exact H.1 E' hE' w hw, by rw [← pc]; exact H.2⟩
    | .inr tr => exact ⟨fun w hw => by rw [effAt_put hsi h3]; exact H.1 w hw, H.2.1, fun v E' ht => ⟨(H.2.2 v E' ht).1, by rw [← pc]; exact (H.2.2 v E' ht).2⟩⟩
  · rw [if_neg ci, if_pos (by rw [wj]; exact cj)] at H; rw [if_pos cj, cB2 ci]
    clear cA1 cA2 cB1 cB2 wi wj
    generalize pl j = q at *
    match q with
    | .inl u => exact ⟨fun E' hE' w hw => by have := H.1 E' hE' w hw; rwa [calmAt_put hsj h1] at this, by show K _ _; rw [← pc]; exact H.2⟩
    | .inr tr => exact ⟨fun w hw => by have := H.1 w hw; rwa [effAt_put hsj h1] at this, H.2.1, fun v E' ht => ⟨(H.2.2 v E' ht).1, by show K _ _; rw [← pc]; exact (H.2.2 v E' ht).2⟩⟩
  · rw [if_neg ci, if_neg (by rw [wj]; exact cj)] at H; rw [if_neg cj, if_neg (by rw [wi]; exact ci)]
    rw [← pc]; exact H
/-- what is listed has its forerunners listed -/
def Cls (md : Region.Mode) (ops : Array Oper) (listed : Array Bool) : Prop := ∀ j oj, ops[j]? = some oj → listed.getD j false = true → ∀ e ∈ oj.after, Region.binds md e = true → listed.getD e.on false = true
theorem Cls.set {listed : Array Bool} {i : Nat} (h : Cls md ops listed) (hi : i ∈ Region.ready md ops listed) : Cls md ops (listed.setIfInBounds i true) := fun j oj hj hl e he hb => by
  obtain ⟨_, oi, hoi, hall⟩ := mem_ready.1 hi
  have hkeep : listed.getD e.on false = true → (listed.setIfInBounds i true).getD e.on false = true := fun h => by
    by_cases hij : i = e.on
    · subst hij
      have hlt : e.on < listed.size := by
        rcases Nat.lt_or_ge e.on listed.size with h' | h'
        · exact h'
        · simp [Array.getElem?_eq_none h'] at h
      simp [hlt]
    · rw [getD_set_ne false hij]; exact h
  by_cases hij : i = j
  · subst hij
    have : oj = oi := Option.some.inj (hj.symm.trans hoi)
    subst this
    have h1 := hall e he hb
    refine hkeep ?_
    rcases Nat.lt_or_ge e.on listed.size with h' | h'
    · simp [h'] at h1 ⊢; exact h1
    · simp [Array.getElem?_eq_none h'] at h1
  · rw [getD_set_ne false hij] at hl
    exact hkeep (h j oj hj hl e he hb)
def waitsT (md : Region.Mode) (ops : Array Oper) (i : Nat) : Nat → Nat → Bool
  | 0, _ => false
  | f + 1, j => match ops[j]? with
    | some oj => oj.after.any fun e => Region.binds md e && (e.on == i || (decide (i < e.on) && waitsT md ops i f e.on))
    | none => false
theorem waitsT_listed {listed : Array Bool} {i : Nat} (hc : Cls md ops listed) : ∀ (f j : Nat), waitsT md ops i f j = true → (∀ oj, ops[j]? = some oj → ∀ e ∈ oj.after, Region.binds md e = true → listed.getD e.on false = true) → listed.getD i false = true
  | 0, j, h, _ => by cases h
  | f + 1, j, h, hd => by
    unfold waitsT at h
    split at h
    · rename_i oj hj
      obtain ⟨e, he, hb⟩ := Array.any_eq_true'.1 h
      simp only [Bool.and_eq_true, Bool.or_eq_true, beq_iff_eq, decide_eq_true_eq] at hb
      obtain ⟨hb1, hb2⟩ := hb
      have hl := hd oj hj e he hb1
      rcases hb2 with h1 | ⟨_, h1⟩
      · rw [← h1]; exact hl
      · exact waitsT_listed hc f e.on h1 fun oe hoe e' he' hb' => hc e.on oe hoe hl e' he' hb'
    · cases h
def effB (md : Region.Mode) (ops : Array Oper) (bs : List Bool) : Bool := (List.range ops.size).all fun j => (!bs.getD j false) || (List.range j).all fun i => (!bs.getD i false) || waitsT md ops i 40 j
def wpAnyE (P : Program) (md : Region.Mode) (ops : Array Oper) (Hd : α → World → Prop) (Nok : α → Prop) (pl : Nat → Plan α) (Q : Act → α → Prop) : Nat → Array Bool → Act → α → Prop
  | 0, listed, a, E => Region.ready md ops listed = [] ∧ Q a E
  | fuel + 1, listed, a, E =>
    (Region.ready md ops listed = [] → Q a E) ∧
    ∀ i ∈ Region.ready md ops listed, cOp P ops Hd Nok pl i (wpAnyE P md ops Hd Nok pl Q fuel (listed.setIfInBounds i true)) a E
theorem wpAny_of_calm {Q : Act → α → Prop} {Q' : Exit → Act → World → Prop} (hcl : Clo Hd) (hQ : ∀ a E w, Nok E → Hd E w → Q a E → Q' .normal a w) : ∀ (fuel : Nat) (listed : Array Bool) (a : Act) (E : α) (w : World), Nok E → Hd E w →
    wpAnyE P md ops Hd Nok pl Q fuel listed a E → wpAny P md ops Q' fuel listed a w
  | 0, _, _, _, _, hE, hw, h => ⟨h.1, hQ _ _ _ hE hw h.2⟩
  | fuel + 1, _, _, _, _, hE, hw, h => ⟨fun h0 => hQ _ _ _ hE hw (h.1 h0), fun i hi => wpOp_of_cOp hcl hE hw (fun a' E' w' hE' hw' => wpAny_of_calm hcl hQ fuel _ a' E' w' hE' hw') (h.2 i hi)⟩
theorem cOp_no {i : Nat} {oi : Oper} (hi : ops[i]? = some oi) (a : Act) (E : α) : ¬ cOp P ops Hd Nok pl i (fun _ _ => False) a E := by
  intro h
  unfold cOp at h
  simp only [hi] at h
  split at h
  · generalize pl i = p at h
    match p with
    | .inl v => exact h.2
    | .inr tr => obtain ⟨_, ⟨v, E', ht⟩, h⟩ := h; exact (h v E' ht).2
  · exact h
theorem low_set {listed : Array Bool} {m j : Nat} (h : listed.getD m true = true) : (listed.setIfInBounds j true).getD m true = true := by
  by_cases hjm : j = m
  · subst hjm
    rcases Nat.lt_or_ge j listed.size with h' | h'
    · simp [h']
    · simp [Array.getElem?_eq_none h']
  · rw [getD_set_ne true hjm]; exact h
theorem wpAnyE_first {Q : Act → α → Prop} {i : Nat} {oi : Oper} (hi : ops[i]? = some oi) (hsel : ∀ (j : Nat) (o : Oper) cs b, ops[j]? = some o → o.op ≠ .select cs b)
    {k0 : Nat} (heff : ∀ listed, Cls md ops listed → (∀ m, m < k0 → listed.getD m true = true) → listed.getD i true = false → ∀ j ∈ Region.ready md ops listed, j ≠ i → isE (pl i) = false ∨ isE (pl j) = false) :
    ∀ (fuel : Nat) (listed : Array Bool) (a : Act) (E : α), Cls md ops listed → (∀ m, m < k0 → listed.getD m true = true) →
      (∀ j oj, ops[j]? = some oj → j ≠ i → listed.getD j true = false → (∀ e ∈ oj.after, Region.binds md e = true → e.on ≠ i) → oi.apart ops oj = true) →
      i ∈ Region.ready md ops listed → cOp P ops Hd Nok pl i (wpAnyE P md ops Hd Nok pl Q fuel (listed.setIfInBounds i true)) a E →
      wpAnyE P md ops Hd Nok pl Q (fuel + 1) listed a E := by
  intro fuel
  induction fuel with
  | zero =>
    intro listed a E hcs hlow hfree hr H
    refine ⟨fun h => (by rw [h] at hr; cases hr), fun j hj => ?_⟩
    by_cases hji : j = i
    · subst hji; exact H
    · exfalso
      have hm := ready_mono hj hji
      exact cOp_no hi a E (cOp_mono (fun a E h => by rw [h.1] at hm; cases hm) H)
  | succ fuel ih =>
    intro listed a E hcs hlow hfree hr H
    refine ⟨fun h => (by rw [h] at hr; cases hr), fun j hj => ?_⟩
    by_cases hji : j = i
    · subst hji; exact H
    · obtain ⟨hjun, oj, hoj, hall⟩ := mem_ready.1 hj
      have h0 := (mem_ready.1 hr).1
      have hnot : ∀ e ∈ oj.after, Region.binds md e = true → e.on ≠ i := fun e he hb heq => by
        have h1 := hall e he hb
        rw [heq] at h1
        rcases Nat.lt_or_ge i listed.size with h' | h'
        · simp [h'] at h0 h1; rw [h0] at h1; cases h1
        · simp [Array.getElem?_eq_none h'] at h1
      have hap := hfree j oj hoj hji hjun hnot
      have hst := heff listed hcs hlow h0 j hj hji
      have h1 := cOp_mono (K' := fun a1 E1 => cOp P ops Hd Nok pl j (wpAnyE P md ops Hd Nok pl Q fuel ((listed.setIfInBounds i true).setIfInBounds j true)) a1 E1) (fun a E h => h.2 j (ready_mono hj hji)) H
      have h2 := cOp_swap hi hoj hap hst (fun cs b => hsel i oi cs b hi) (fun cs b => hsel j oj cs b hoj) h1
      refine cOp_mono (fun a' E' h3 => ih (listed.setIfInBounds j true) a' E' (hcs.set hj) (fun m hm => low_set (hlow m hm)) ?_ (ready_mono hr (Ne.symm hji)) ?_) h2
      · intro k ok hk hki hun hno
        refine hfree k ok hk hki ?_ hno
        by_cases hjk : j = k
        · subst hjk; exact hjun
        · rw [getD_set_ne true hjk] at hun; exact hun
      · rw [Array.setIfInBounds_comm _ _ hji]
        exact h3
theorem eff_apart {bs : List Bool} {k : Nat} {o : Oper} (hst : effB md ops bs = true) (hag : ∀ i, isE (pl i) = true → bs.getD i false = true) (h0 : ops[k]? = some o) {listed' : Array Bool} (hc' : Cls md ops listed') (hlow : ∀ m, m < k → listed'.getD m true = true) (hun : listed'.getD k true = false) : ∀ j ∈ Region.ready md ops listed', j ≠ k → isE (pl k) = false ∨ isE (pl j) = false := fun j hj hne => by
  cases hek : isE (pl k) with
  | false => exact .inl rfl
  | true =>
    cases hej : isE (pl j) with
    | false => exact .inr rfl
    | true =>
      exfalso
      have b1 := hag k hek
      have b2 := hag j hej
      obtain ⟨hjun, oj, hoj, hall⟩ := mem_ready.1 hj
      have hksz := (Array.getElem?_eq_some_iff.1 h0).1
      have hjsz := (Array.getElem?_eq_some_iff.1 hoj).1
      have hwt : ∀ i j : Nat, i < j → j < ops.size → bs.getD i false = true → bs.getD j false = true → waitsT md ops i 40 j = true := fun i j hij hj hbi hbj => by
        unfold effB at hst
        simp only [List.all_eq_true, List.mem_range] at hst
        have h1 := hst j hj
        simp only [hbj, Bool.not_true, Bool.false_or, List.all_eq_true, List.mem_range] at h1
        have h2 := h1 i hij
        simpa only [hbi, Bool.not_true, Bool.false_or] using h2
      have hdep : ∀ oj', ops[j]? = some oj' → ∀ e ∈ oj'.after, Region.binds md e = true → listed'.getD e.on false = true := fun oj' ho e he hb => by
        have : oj' = oj := Option.some.inj (ho.symm.trans hoj)
        subst this
        have h1 := hall e he hb
        rcases Nat.lt_or_ge e.on listed'.size with h' | h'
        · simp [h'] at h1 ⊢; exact h1
        · simp [Array.getElem?_eq_none h'] at h1
      rcases Nat.lt_or_ge k j with hkj | hkj
      · have h1 := waitsT_listed hc' 40 j (hwt k j hkj hjsz b1 b2) hdep
        rcases Nat.lt_or_ge k listed'.size with h' | h'
        · simp [h'] at hun h1; rw [hun] at h1; cases h1
        · simp [Array.getElem?_eq_none h'] at hun
      · have := hlow j (by omega)
        rw [hjun] at this; cases this
theorem wpAnyE_lex {Q : Act → α → Prop} {bs : List Bool} (hs : Region.noSelect ops = true) (hst : effB md ops bs = true) (hag : ∀ i, isE (pl i) = true → bs.getD i false = true) : ∀ (l : List Oper) (k : Nat) (listed : Array Bool) (a : Act) (E : α), Cls md ops listed → (∀ j, l[j]? = ops[k + j]?) → (∀ j, j < k → listed.getD j true = true) →
    Region.lexFrom md ops l.length k listed = true → wpLex P ops Hd Nok pl Q l k a E → wpAnyE P md ops Hd Nok pl Q l.length listed a E
  | [], _, _, _, _, _, _, _, hB, h => ⟨by simpa [Region.lexFrom] using hB, h⟩
  | o :: l, k, listed, a, E, hcs, hl, hk, hB, h => by
    have h0 : ops[k]? = some o := by simpa using (hl 0).symm
    simp only [List.length_cons, Region.lexFrom, Bool.and_eq_true] at hB
    obtain ⟨⟨hr, hf⟩, hB'⟩ := hB
    have hC : cOp P ops Hd Nok pl k (wpLex P ops Hd Nok pl Q l (k + 1)) a E := by unfold cOp; simp only [h0]; exact h
    have hr' : k ∈ Region.ready md ops listed := by simpa using hr
    refine wpAnyE_first h0 (Region.noSelect_spec hs) (k0 := k) (fun listed' hc' hlow hun j hj hne => ?_) l.length listed a E hcs hk (fun j oj hj hne hun hno => Region.free_spec h0 hf j oj hj hne hun hno) hr' ?_
    · exact eff_apart hst hag h0 hc' hlow hun j hj hne
    · refine cOp_mono (fun a' E' h' => wpAnyE_lex hs hst hag l (k + 1) _ a' E' (hcs.set hr') (fun j => by have := hl (j + 1); simpa [Nat.add_assoc, Nat.add_comm 1 j] using this) (fun j hj => ?_) hB' h') hC
      by_cases hjk : j = k
      · subst hjk
        have hlt : j < listed.size := by
          rcases Nat.lt_or_ge j listed.size with h' | h'
          · exact h'
          · have := mem_ready.1 (by simpa using hr : j ∈ Region.ready md ops listed)
            simp [Array.getElem?_eq_none h'] at this
        simp [hlt]
      · rw [getD_set_ne true (Ne.symm hjk)]; exact hk j (by omega)
end
end Go.Proofs.Ytnafnhpajkhgkaa.CalmE
namespace Go.Proofs.Ytnafnhpajkhgkaa.Wk
set_option linter.unusedVariables false
set_option linter.unusedSimpArgs false
open Go Go.RowKit Mem Calm
variable {P : Program} {n : Nat} {O : List Nat} {w0 : World} {l : List (Nat × Value)} {N L : List (Nat × TypeId × Array Value)} {Q : Exit → Act → World → Prop} {ops : Array Oper} {o : Oper} {rest : List Oper} {k d : Nat} {v : Value} {x y : Operand} {Nok : List (Nat × TypeId × Array Value) → Prop} {pl : Nat → CalmE.Plan (List (Nat × TypeId × Array Value))}
/-- N: the blocks that effects write; L: the others. -/
def Z (P : Program) (ops : Array Oper) (Q : Exit → Act → World → Prop) (n : Nat) (O : List Nat) (w0 : World) (Nok : List (Nat × TypeId × Array Value) → Prop) (pl : Nat → CalmE.Plan (List (Nat × TypeId × Array Value))) (rest : List Oper) (k : Nat) (l : List (Nat × Value)) (N L : List (Nat × TypeId × Array Value)) : Prop :=
  ∀ a, Fr n l a → CalmE.wpLex P ops (fun N w => Kn O w0 w (N ++ L)) Nok pl (fun a' N' => ∀ w', Kn O w0 w' (N' ++ L) → Q .normal a' w') rest k a N
theorem z_val (hg : o.guard = none) (hd : o.dst = some d) (hn : Nat.blt d n = true) (hr : ∀ N, Nok N → Rn P n O w0 l (N ++ L) o v) (hp : pl k = .inl v) (h : Z P ops Q n O w0 Nok pl rest (k + 1) ((d, v) :: l) N L) : Z P ops Q n O w0 Nok pl (o :: rest) k l N L := fun a hF => by
  unfold CalmE.wpLex
  rw [if_pos (by simp [Region.wanted, hg])]
  unfold CalmE.pOp
  rw [hp]
  refine ⟨fun E' hE' w hw => ?_, by rw [hd]; exact h _ (hF.put hn v)⟩
  unfold calmAt; rw [hr E' hE' a w hF hw]; exact ⟨rfl, rfl⟩
/-- An effect, by what it may yield and leave. -/
theorem z_eff {ι : Type} (Pf : ι → Prop) (vf : ι → Value) (Nf : ι → List (Nat × TypeId × Array Value)) (hg : o.guard = none) (hr : ∀ a w, Fr n l a → Kn O w0 w (N ++ L) → CalmE.effAt P o a w (fun v w' => ∃ i, Pf i ∧ v = vf i ∧ Kn O w0 w' (Nf i ++ L))) (hex : ∃ i, Pf i) (hok : ∀ i, Pf i → Nok (Nf i))
    (hp : pl k = .inr (fun v N' => ∃ i, Pf i ∧ v = vf i ∧ N' = Nf i)) (h : ∀ i, Pf i → ∀ a, Fr n l a → CalmE.wpLex P ops (fun N w => Kn O w0 w (N ++ L)) Nok pl (fun a' N' => ∀ w', Kn O w0 w' (N' ++ L) → Q .normal a' w') rest (k + 1) (a.put o.dst (vf i)) (Nf i)) : Z P ops Q n O w0 Nok pl (o :: rest) k l N L := fun a hF => by
  unfold CalmE.wpLex
  rw [if_pos (by simp [Region.wanted, hg])]
  unfold CalmE.pOp
  rw [hp]
  obtain ⟨i0, h0⟩ := hex
  refine ⟨fun w hw => ?_, ⟨_, _, i0, h0, rfl, rfl⟩, fun v E' ⟨i, hi, hv, hN⟩ => ?_⟩
  · have := hr a w hF hw
    unfold CalmE.effAt at this ⊢
    generalize (execOp a.eval o).run P w = r at *
    cases r with
    | ok nx w' =>
      cases nx <;> simp only [CalmE.effUpon] at this ⊢
      case value u => obtain ⟨i, hi, hv, hK⟩ := this; exact ⟨_, ⟨i, hi, hv, rfl⟩, hK⟩
      case skip => obtain ⟨i, hi, hv, hK⟩ := this; exact ⟨_, ⟨i, hi, hv, rfl⟩, hK⟩
      case enter f args => exact ⟨this.1, this.2.mono fun e w'' ⟨v, he, i, hi, hv, hK⟩ => ⟨v, he, _, ⟨i, hi, hv, rfl⟩, hK⟩⟩
    | halt x w' => simp only [CalmE.effUpon] at this
  · subst hv; subst hN
    exact ⟨hok i hi, h i hi a hF⟩
/-- A call that writes. -/
theorem z_write {ι : Type} {f : FuncId} {fn : Func} {xs : Array Operand} {ts : Array TypeId} {vs : List Value} (Pf : ι → Prop) (vf : ι → Value) (Nf : ι → List (Nat × TypeId × Array Value)) (hf : P.funcs[f]? = some fn) (hname : (fn.name == "runtime.NumGoroutine") = false) (hb : fn.body.isSome = true) (hg : o.guard = none) (hd : o.dst = some d) (hn : Nat.blt d n = true)
    (hop : o.op = .call { callee := .value (.func f), args := xs, argTypes := ts }) (hargs : evs l xs.toList = some vs)
    (hc : ∀ w, Kn O w0 w (N ++ L) → Calls P f vs.toArray w fun e w' => ∃ i, Pf i ∧ e = .returned (vf i) ∧ Kn O w0 w' (Nf i ++ L)) (hex : ∃ i, Pf i) (hok : ∀ i, Pf i → Nok (Nf i)) (hp : pl k = .inr (fun v N' => ∃ i, Pf i ∧ v = vf i ∧ N' = Nf i)) (h : ∀ i, Pf i → Z P ops Q n O w0 Nok pl rest (k + 1) ((d, vf i) :: l) (Nf i) L) : Z P ops Q n O w0 Nok pl (o :: rest) k l N L :=
  z_eff Pf vf Nf hg (fun a w hF hw => by
    unfold CalmE.effAt
    rw [run_callc (caps := []) hf hname hb hop rfl (hF.evals hargs) w]
    refine ⟨rfl, ?_⟩
    rw [List.append_nil]
    exact (hc w hw).mono fun e w'' ⟨i, hP, he, hK⟩ => ⟨_, he, i, hP, rfl, hK⟩) hex hok hp (fun i hi a hF => by rw [hd]; exact h i hi _ (hF.put hn _))
theorem z_nil (h : Wk.E Q n O w0 .normal l (N ++ L)) : Z P ops Q n O w0 Nok pl [] k l N L := fun a hF w' hw => h a w' hF hw
theorem c_drawZ {id : Nat} {r : List Oper} (bs : List Bool) (Nok : List (Nat × TypeId × Array Value) → Prop) (N L' : List (Nat × TypeId × Array Value)) (pl : List (CalmE.Plan (List (Nat × TypeId × Array Value)))) (hm : P.follows .mixedOrders = true) (hB : Region.lexB .any r.toArray = true) (hst : CalmE.effB .any r.toArray bs = true) (hag : CalmE.Agree pl bs) (hok : Nok N) (hperm : L.Perm (N ++ L'))
    (h : Z P r.toArray Q n O w0 Nok (fun i => pl.getD i (.inl undef)) r 0 l N L') : C P Q n O w0 (.region id r.toArray true) l L := fun a w hF hL0 => by
  have hL : Kn O w0 w (N ++ L') := ⟨hL0.os, hL0.tape, hL0.output, hL0.size, hL0.base, fun k hk hx => hL0.keep k hk fun b hb => hx b (hperm.mem_iff.1 hb), fun b hb => hL0.low b (hperm.mem_iff.2 hb), fun b hb => hL0.has b (hperm.mem_iff.2 hb), (hperm.map _).nodup_iff.1 hL0.nodup⟩
  have hx := h a hF
  simp only [Region.lexB, Bool.and_eq_true] at hB
  have hcl : CalmE.Clo (fun N w => Kn O w0 w (N ++ L')) := fun E w w' hw hb => Own.ext hw hb
  have H := CalmE.wpAnyE_lex (P := P) (md := .any) hB.1 hst (fun i hi => hag.get i hi) r 0 (Array.replicate r.toArray.size false) a N (fun j oj _ hl => by rw [getD_replicate_false] at hl; cases hl) (by simp) (fun j hj => by omega) (by simpa using hB.2) hx
  refine wp_region_any hm ?_
  have := CalmE.wpAny_of_calm (P := P) (Q' := Q) hcl (fun a' E' w' hE' hw' hq => hq w' hw') _ _ _ _ { w with drawn := w.drawn + 1 } hok (show Kn O w0 { w with drawn := w.drawn + 1 } (N ++ L') from ⟨hL.os, hL.tape, hL.output, hL.size, hL.base, hL.keep, hL.low, hL.has, hL.nodup⟩) H
  simpa using this
end Go.Proofs.Ytnafnhpajkhgkaa.Wk
