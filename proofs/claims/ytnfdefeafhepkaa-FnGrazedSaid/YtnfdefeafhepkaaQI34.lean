import Derived.Test.YtnfdefeafhepkaaQI28
import Derived.Test.YtnfdefeafhepkaaQI33
set_option linter.unusedVariables false
set_option linter.unusedSimpArgs false
namespace Go.Proofs.Ytnfdefeafhepkaa.CalmE
open Go Go.RowKit Mem Calm
section
variable {P : Program} {ops : Array Oper} {md : Region.Mode} {α : Type} {Hd : α → World → Prop} {Nok : α → Prop} {pl : Nat → Plan α}
def wpAnyLE (P : Program) (md : Region.Mode) (ops : Array Oper) (Hd : α → World → Prop) (Nok : α → Prop) (pl : Nat → Plan α) (n : Nat) (Lq : Array Bool → Act → α → Prop) : Nat → Array Bool → Act → α → Prop
  | 0, listed, a, E => Lq listed a E
  | f + 1, listed, a, E => Region.ready md ops listed ≠ [] ∧ ∀ i ∈ Region.ready md ops listed, i < n ∧ cOp P ops Hd Nok pl i (wpAnyLE P md ops Hd Nok pl n Lq f (listed.setIfInBounds i true)) a E
theorem wpAny_of_headE {n g : Nat} {Lq : Array Bool → Act → α → Prop} {Q' : Exit → Act → World → Prop} (hcl : Clo Hd) (hL : ∀ listed a E w, Nok E → Hd E w → Lq listed a E → wpAny P md ops Q' g listed a w) :
    ∀ (f : Nat) (listed : Array Bool) (a : Act) (E : α) (w : World), Nok E → Hd E w → wpAnyLE P md ops Hd Nok pl n Lq f listed a E → wpAny P md ops Q' (f + g) listed a w
  | 0, listed, a, E, w, hE, hw, h => by rw [Nat.zero_add]; exact hL _ _ _ _ hE hw h
  | f + 1, listed, a, E, w, hE, hw, h => by
    rw [show f + 1 + g = (f + g) + 1 by omega]
    exact ⟨fun h0 => absurd h0 h.1, fun i hi => wpOp_of_cOp hcl hE hw (fun a' E' w' hE' hw' h' => wpAny_of_headE hcl hL f _ a' E' w' hE' hw' h') (h.2 i hi).2⟩
theorem wpAnyLE_first {n i : Nat} {oi : Oper} {Lq : Array Bool → Act → α → Prop} (hi : ops[i]? = some oi) (hsel : ∀ (j : Nat) (o : Oper) cs b, ops[j]? = some o → o.op ≠ .select cs b)
    (hs : Region.sinkB md ops n = true) (hc : Region.chainB md ops n = true) (hn : n < ops.size) (hin : i < n) (hdone : ∀ listed a E, Lq listed a E → ∀ j ∈ Region.ready md ops listed, n ≤ j)
    {k0 : Nat} (heff : ∀ listed, Cls md ops listed → (∀ m, m < k0 → listed.getD m true = true) → listed.getD i true = false → ∀ j ∈ Region.ready md ops listed, j ≠ i → isE (pl i) = false ∨ isE (pl j) = false) :
    ∀ (f : Nat) (listed : Array Bool) (a : Act) (E : α), HeadInv md ops n listed → (∀ m, m < k0 → listed.getD m true = true) →
      (∀ j oj, ops[j]? = some oj → j ≠ i → listed.getD j true = false → (∀ e ∈ oj.after, Region.binds md e = true → e.on ≠ i) → oi.apart ops oj = true) →
      i ∈ Region.ready md ops listed → cOp P ops Hd Nok pl i (wpAnyLE P md ops Hd Nok pl n Lq f (listed.setIfInBounds i true)) a E → wpAnyLE P md ops Hd Nok pl n Lq (f + 1) listed a E := by
  intro f
  induction f with
  | zero =>
    intro listed a E inv hlow _ hr H
    have hun := (mem_ready.1 hr).1
    refine ⟨fun h => (by rw [h] at hr; cases hr), fun j hj => ?_⟩
    have hjn : j < n := by
      rcases Nat.lt_or_ge j n with h | h
      · exact h
      · exact absurd hj (tail_waits hs hc hn inv _ i rfl hin hun j h)
    refine ⟨hjn, ?_⟩
    by_cases hji : j = i
    · subst hji; exact H
    · exfalso
      exact cOp_no hi a E (cOp_mono (fun a E h => by have := hdone _ _ _ h j (ready_mono hj hji); omega) H)
  | succ f ih =>
    intro listed a E inv hlow hfree hr H
    have hun := (mem_ready.1 hr).1
    refine ⟨fun h => (by rw [h] at hr; cases hr), fun j hj => ?_⟩
    have hjn : j < n := by
      rcases Nat.lt_or_ge j n with h | h
      · exact h
      · exact absurd hj (tail_waits hs hc hn inv _ i rfl hin hun j h)
    refine ⟨hjn, ?_⟩
    by_cases hji : j = i
    · subst hji; exact H
    · obtain ⟨hjun, oj, hoj, hall⟩ := mem_ready.1 hj
      have hnot : ∀ e ∈ oj.after, Region.binds md e = true → e.on ≠ i := fun e he hb heq => by
        have h1 := hall e he hb
        rw [heq, getD_both hun] at h1
        cases h1
      have hap := hfree j oj hoj hji hjun hnot
      have hst := heff listed inv.closed hlow hun j hj hji
      have h1 := cOp_mono (K' := fun a1 E1 => cOp P ops Hd Nok pl j (wpAnyLE P md ops Hd Nok pl n Lq f ((listed.setIfInBounds i true).setIfInBounds j true)) a1 E1) (fun a E h => (h.2 j (ready_mono hj hji)).2) H
      have h2 := cOp_swap hi hoj hap hst (fun cs b => hsel i oi cs b hi) (fun cs b => hsel j oj cs b hoj) h1
      refine cOp_mono (fun a' E' h3 => ih (listed.setIfInBounds j true) a' E' (inv.set hj hjn) (fun m hm => low_set (hlow m hm)) ?_ (ready_mono hr (Ne.symm hji)) ?_) h2
      · intro k ok hk hki hun hno
        refine hfree k ok hk hki ?_ hno
        by_cases hjk : j = k
        · subst hjk; exact hjun
        · rw [getD_set_ne true hjk] at hun; exact hun
      · rw [Array.setIfInBounds_comm _ _ hji]
        exact h3
theorem wpAnyLE_lex {n g : Nat} {Lq : Act → α → Prop} {bs : List Bool} (hsel : Region.noSelect ops = true) (hst : effB md ops bs = true) (hag : ∀ i, isE (pl i) = true → bs.getD i false = true) (hs : Region.sinkB md ops n = true) (hc : Region.chainB md ops n = true) (hn : n < ops.size) :
    ∀ (l : List Oper) (k : Nat) (listed : Array Bool) (a : Act) (E : α), (∀ j, j < l.length → l[j]? = ops[k + j]?) → k + l.length = n → (∀ j, j < k → listed.getD j true = true) → HeadInv md ops n listed →
    Region.lexHead md ops g l.length k listed = true → wpLex P ops Hd Nok pl Lq l k a E →
    wpAnyLE P md ops Hd Nok pl n (fun listed' a' E' => Region.seqB md ops g n listed' = true ∧ Lq a' E') l.length listed a E
  | [], k, listed, a, E, hl, hk, _, _, hB, h => by
    have : k = n := by simpa using hk
    subst this
    exact ⟨by simpa [Region.lexHead] using hB, h⟩
  | o :: l, k, listed, a, E, hl, hk, hkk, inv, hB, h => by
    have h0 : ops[k]? = some o := by simpa using (hl 0 (by simp)).symm
    simp only [List.length_cons, Region.lexHead, Bool.and_eq_true] at hB
    obtain ⟨⟨hr, hf⟩, hB'⟩ := hB
    have hkn : k < n := by simp only [List.length_cons] at hk; omega
    have hr' : k ∈ Region.ready md ops listed := by simpa using hr
    have hC : cOp P ops Hd Nok pl k (wpLex P ops Hd Nok pl Lq l (k + 1)) a E := by unfold cOp; simp only [h0]; exact h
    refine wpAnyLE_first h0 (Region.noSelect_spec hsel) hs hc hn hkn (fun listed' a' E' hL => seqB_ready hL.1) (k0 := k) (fun listed' hc' hlow hun j hj hne => eff_apart hst hag h0 hc' hlow hun j hj hne) l.length listed a E inv hkk (fun j oj hj hne hun hno => Region.free_spec h0 hf j oj hj hne hun hno) hr' ?_
    refine cOp_mono (fun a' E' h' => wpAnyLE_lex hsel hst hag hs hc hn l (k + 1) _ a' E' (fun j hj => by have := hl (j + 1) (by simp; omega); simpa [Nat.add_assoc, Nat.add_comm 1 j] using this) (by simp only [List.length_cons] at hk; omega) (fun j hj => ?_) (inv.set hr' hkn) hB' h') hC
    by_cases hjk : j = k
    · subst hjk
      have hlt : j < listed.size := by rw [inv.size]; omega
      simp [hlt]
    · rw [getD_set_ne true (Ne.symm hjk)]; exact hkk j (by omega)
end
end Go.Proofs.Ytnfdefeafhepkaa.CalmE
namespace Go.Proofs.Ytnfdefeafhepkaa.Wk
open Go Go.RowKit Mem Calm
variable {P : Program} {n : Nat} {O : List Nat} {w0 : World} {l : List (Nat × Value)} {L : List (Nat × TypeId × Array Value)} {Q : Exit → Act → World → Prop}
theorem c_drawZT {id : Nat} {r : List Oper} (m : Nat) (bs : List Bool) (Nok : List (Nat × TypeId × Array Value) → Prop) (N L' : List (Nat × TypeId × Array Value)) (pl : List (CalmE.Plan (List (Nat × TypeId × Array Value)))) (hm : P.follows .mixedOrders = true) (hB : Region.lexTailB .any r.toArray m = true) (hst : CalmE.effB .any r.toArray bs = true) (hag : CalmE.Agree pl bs) (hok : Nok N) (hperm : L.Perm (N ++ L'))
    (h : Z P r.toArray (TailQ P r.toArray Q (r.drop m)) n O w0 Nok (fun i => pl.getD i (.inl undef)) (r.take m) 0 l N L') : C P Q n O w0 (.region id r.toArray true) l L := fun a w hF hL0 => by
  have hL : Kn O w0 w (N ++ L') := ⟨hL0.os, hL0.tape, hL0.output, hL0.size, hL0.base, fun k hk hx => hL0.keep k hk fun b hb => hx b (hperm.mem_iff.1 hb), fun b hb => hL0.low b (hperm.mem_iff.2 hb), fun b hb => hL0.has b (hperm.mem_iff.2 hb), (hperm.map _).nodup_iff.1 hL0.nodup⟩
  have hx := h a hF
  simp only [Region.lexTailB, Bool.and_eq_true, decide_eq_true_eq] at hB
  obtain ⟨⟨⟨⟨hsel, hn⟩, hs⟩, hc⟩, hlex⟩ := hB
  have hn' : m < r.length := by simpa using hn
  have htl : (r.take m).length = m := by simp; omega
  have hdl : (r.drop m).length = r.toArray.size - m := by simp
  have inv0 : HeadInv .any r.toArray m (Array.replicate r.toArray.size false) :=
    ⟨by simp, fun j oj _ hl => (by rw [getD_replicate_false] at hl; cases hl), fun t _ ht => getD_in (by simpa using ht) (getD_replicate_false _ _)⟩
  have H := CalmE.wpAnyLE_lex (P := P) (pl := fun i => pl.getD i (.inl undef)) (md := .any) (g := r.toArray.size - m) hsel hst (fun i hi => hag.get i hi) hs hc hn (r.take m) 0 _ a N (fun j hj => by
    have hj' : j < m := by rw [htl] at hj; exact hj
    simp [hj']) (by simpa using htl) (fun j hj => by omega) inv0 (by rw [htl]; exact hlex) hx
  refine wp_region_any hm ?_
  have hcl : CalmE.Clo (fun N w => Kn O w0 w (N ++ L')) := fun E w w' hw hb => Own.ext hw hb
  have := CalmE.wpAny_of_headE (P := P) (Q' := Q) (g := r.toArray.size - m) hcl (fun listed a' E' w' hE' hw' hL' => by
    have := wpAny_of_seq (md := .any) (Q' := Q) (r.drop m) m listed a' w' (fun j => by simp [List.getElem?_drop]) (by rw [hdl]; exact hL'.1) (hL'.2 w' hw')
    rwa [hdl] at this) _ _ _ _ { w with drawn := w.drawn + 1 } hok (show Kn O w0 { w with drawn := w.drawn + 1 } (N ++ L') from ⟨hL.os, hL.tape, hL.output, hL.size, hL.base, hL.keep, hL.low, hL.has, hL.nodup⟩) H
  rw [htl, show m + (r.toArray.size - m) = r.toArray.size by omega] at this
  exact this
theorem c_drawZTall {id : Nat} {r : List Oper} (m : Nat) (bs : List Bool) (Nok : List (Nat × TypeId × Array Value) → Prop) (pl : List (CalmE.Plan (List (Nat × TypeId × Array Value)))) (hm : P.follows .mixedOrders = true) (hB : Region.lexTailB .any r.toArray m = true) (hst : CalmE.effB .any r.toArray bs = true) (hag : CalmE.Agree pl bs) (hok : Nok L)
    (h : Z P r.toArray (TailQ P r.toArray Q (r.drop m)) n O w0 Nok (fun i => pl.getD i (.inl undef)) (r.take m) 0 l L []) : C P Q n O w0 (.region id r.toArray true) l L := c_drawZT m bs Nok L [] pl hm hB hst hag hok (by rw [List.append_nil]) h
section
variable {N : List (Nat × TypeId × Array Value)} {ops : Array Oper} {o : Oper} {rest : List Oper} {k d : Nat} {v : Value} {x y : Operand} {Nok : List (Nat × TypeId × Array Value) → Prop} {pl : Nat → CalmE.Plan (List (Nat × TypeId × Array Value))}
theorem z_conv (tb : Tb P) {s t : Nat} {kd kd' : IntKind} {m m' : Int} (hg : o.guard = none) (hd : o.dst = some d) (hn : Nat.blt d n = true) (ho : o.op = .convert s t x) (hx : ev l x = some (.int kd' m)) (hs : lkT tb.k s = some kd') (ht : lkT tb.k t = some kd) (hw : kd.wrap m = m') (hp : pl k = .inl (.int kd m')) (h : Z P ops Q n O w0 Nok pl rest (k + 1) ((d, .int kd m') :: l) N L) : Z P ops Q n O w0 Nok pl (o :: rest) k l N L := z_val hg hd hn (fun N _ => r_conv tb ho hx hs ht hw) hp h
theorem z_add {t t' : Nat} {kd : IntKind} {m m' r : Int} (hg : o.guard = none) (hd : o.dst = some d) (hn : Nat.blt d n = true) (ho : o.op = .binOp .add t x y t') (hx : ev l x = some (.int kd m)) (hy : ev l y = some (.int kd m')) (hw : kd.wrap (m + m') = r) (hp : pl k = .inl (.int kd r)) (h : Z P ops Q n O w0 Nok pl rest (k + 1) ((d, .int kd r) :: l) N L) : Z P ops Q n O w0 Nok pl (o :: rest) k l N L := z_val hg hd hn (fun N _ => r_add ho hx hy hw) hp h
theorem z_sub {t t' : Nat} {kd : IntKind} {m m' r : Int} (hg : o.guard = none) (hd : o.dst = some d) (hn : Nat.blt d n = true) (ho : o.op = .binOp .sub t x y t') (hx : ev l x = some (.int kd m)) (hy : ev l y = some (.int kd m')) (hw : kd.wrap (m - m') = r) (hp : pl k = .inl (.int kd r)) (h : Z P ops Q n O w0 Nok pl rest (k + 1) ((d, .int kd r) :: l) N L) : Z P ops Q n O w0 Nok pl (o :: rest) k l N L := z_val hg hd hn (fun N _ => r_sub ho hx hy hw) hp h
end
end Go.Proofs.Ytnfdefeafhepkaa.Wk
namespace Go.Proofs.Ytnfdefeafhepkaa
open Go.RowKit Mem Wk
attribute [local irreducible] Calls Wk.S Wk.C Wk.E Wk.X Wk.T Wk.Y Wk.Z Wk.anV Wk.orV Wk.andV Wk.shlV Wk.shrV Calm.wpLex CalmB.wpLex CalmE.wpLex bfsN
def gtO : Gt := ⟨0, 0, 0, 0, 0, 0, 0⟩
structure Fd where
  p : Nat → Int
  L : List Gt
  E : List Int
def fdStep (i : Nat) (s : Fd) : Fd :=
  ⟨bitP s.p (s.L.getD i gtO) ((s.L.getD i gtO).eats - s.E.getD i 0), s.L.set i (bitG s.p (s.L.getD i gtO) ((s.L.getD i gtO).eats - s.E.getD i 0)), s.E.set i (s.E.getD i 0 + bitM s.p (s.L.getD i gtO) ((s.L.getD i gtO).eats - s.E.getD i 0))⟩
def fdT (n : Nat) (s : Fd) : Nat → Fd
  | 0 => s
  | t + 1 => fdStep (t % n) (fdT n s t)
theorem fdT_at {n r i : Nat} {s : Fd} (hi : i < n) : fdT n s (r * n + i + 1) = fdStep i (fdT n s (r * n + i)) := by
  show fdStep ((r * n + i) % n) _ = _
  rw [Nat.mul_comm r n, Nat.mul_add_mod, Nat.mod_eq_of_lt hi]
structure FdOk (n t : Nat) (s : Fd) : Prop where
  lL : s.L.length = n
  lE : s.E.length = n
  on : ∀ (i : Nat) (g : Gt), s.L[i]? = some g → GtOn s.p g ∧ 0 ≤ g.eats ∧ g.eats ≤ 100
  le : ∀ (i : Nat) (g : Gt) (e : Int), s.L[i]? = some g → s.E[i]? = some e → e ≤ g.eats ∧ -(40000 * (t : Int)) ≤ e
theorem FdOk.step {n t i : Nat} {s : Fd} {g : Gt} {e : Int} {cs : Array Value} (h : FdOk n t s) (hp : Pv s.p cs) (hg : s.L[i]? = some g) (he : s.E[i]? = some e) :
    fdStep i s = ⟨bitP s.p g (g.eats - e), s.L.set i (bitG s.p g (g.eats - e)), s.E.set i (e + bitM s.p g (g.eats - e))⟩ ∧ FdOk n (t + 1) (fdStep i s) := by
  have e1 : s.L.getD i gtO = g := by simp [List.getD_eq_getElem?_getD, hg]
  have e2 : s.E.getD i 0 = e := by simp [List.getD_eq_getElem?_getD, he]
  have hS : fdStep i s = ⟨bitP s.p g (g.eats - e), s.L.set i (bitG s.p g (g.eats - e)), s.E.set i (e + bitM s.p g (g.eats - e))⟩ := by unfold fdStep; rw [e1, e2]
  obtain ⟨hon, h0, h100⟩ := h.on i g hg
  obtain ⟨l1, l2⟩ := h.le i g e hg he
  have hm := bitM_ge (h := g.eats - e) hp hon (by omega)
  have hm2 := bitM_le (p := s.p) (g := g) (h := g.eats - e) (by omega)
  have ht := bitG_tail s.p g (g.eats - e)
  have hlt := (List.getElem?_eq_some_iff.1 hg).1
  have hlt2 := (List.getElem?_eq_some_iff.1 he).1
  refine ⟨hS, ?_⟩
  rw [hS]
  refine ⟨by simp [h.lL], by simp [h.lE], fun k d hd => ?_, fun k d u hd hu => ?_⟩
  · simp only at hd ⊢
    by_cases ek : i = k
    · subst ek
      rw [List.getElem?_set_self hlt] at hd
      injection hd with hd; subst hd
      exact ⟨bit_on hon, by rw [ht.2.2.2.1]; exact h0, by rw [ht.2.2.2.1]; exact h100⟩
    · rw [List.getElem?_set_ne ek] at hd
      obtain ⟨q1, q2⟩ := h.on k d hd
      exact ⟨q1.bit, q2⟩
  · simp only at hd hu
    by_cases ek : i = k
    · subst ek
      rw [List.getElem?_set_self hlt] at hd
      rw [List.getElem?_set_self hlt2] at hu
      injection hd with hd; subst hd
      injection hu with hu; subst hu
      rw [ht.2.2.2.1]
      omega
    · rw [List.getElem?_set_ne ek] at hd hu
      have := h.le k d u hd hu
      omega
def fedS (p : Nat → Int) (L : List Gt) : Fd := fdT L.length ⟨p, L, List.replicate L.length 0⟩ (12 * L.length)
def FdPv (s : Fd) : Prop := ∃ c, Pv s.p c
theorem fdT_ok {n : Nat} {s : Fd} (hn : 0 < n) (h0 : FdOk n 0 s) (hp : FdPv s) : ∀ t, FdOk n t (fdT n s t) ∧ FdPv (fdT n s t)
  | 0 => ⟨h0, hp⟩
  | t + 1 => by
    obtain ⟨h1, c, hc⟩ := fdT_ok hn h0 hp t
    have hi : t % n < n := Nat.mod_lt _ hn
    have hg : (fdT n s t).L[t % n]? = some ((fdT n s t).L[t % n]'(by rw [h1.lL]; exact hi)) := List.getElem?_eq_getElem _
    have he : (fdT n s t).E[t % n]? = some ((fdT n s t).E[t % n]'(by rw [h1.lE]; exact hi)) := List.getElem?_eq_getElem _
    obtain ⟨e1, h2⟩ := h1.step hc hg he
    refine ⟨h2, ?_⟩
    show FdPv (fdStep (t % n) (fdT n s t))
    rw [e1]
    exact bitP_ex hc (h1.on _ _ hg).1
theorem fdT_ok0 {n : Nat} {s : Fd} (h0 : FdOk n 0 s) (hp : FdPv s) (r : Nat) : FdOk n (r * n) (fdT n s (r * n)) ∧ FdPv (fdT n s (r * n)) := by
  rcases Nat.eq_zero_or_pos n with h | h
  · subst h; rw [Nat.mul_zero]; exact ⟨h0, hp⟩
  · exact fdT_ok h h0 hp _
def intA (E : List Int) : Array Value := (E.map (Value.int .i64)).toArray
theorem intA_get {E : List Int} {i : Nat} {e : Int} (h : E[i]? = some e) : (intA E)[0 + i * 1]? = some (.int .i64 e) := by simp [intA, h]
theorem intA_set (E : List Int) (i : Nat) (v : Int) : (intA E).setIfInBounds (0 + i * 1) (.int .i64 v) = intA (E.set i v) := by simp [intA, List.map_set]
theorem intA_size (E : List Int) : (intA E).size = E.length := by simp [intA]
theorem made0 (n : Nat) : madeCells (Value.int .i64 0).cells (n * 1) = intA (List.replicate n 0) := by
  apply Array.ext_getElem?
  intro j
  unfold madeCells intA
  simp only [Nat.mul_one, Array.getElem?_map, List.getElem?_toArray, List.getElem?_map, List.getElem?_replicate]
  by_cases hj : j < n
  · simp [hj, Value.cells, Nat.mod_one]
  · simp [hj]
structure GtW (L : List Gt) (o n : Nat) (cur cu : Array Value) : Prop where
  size : cu.size = cur.size
  ins : GtIn L o cu
  out : ∀ j, j < o ∨ o + n * 7 ≤ j → cu[j]? = cur[j]?
theorem GtW.set {L : List Gt} {o n i : Nat} {cur cu : Array Value} {g : Gt} (p : Nat → Int) (h : Int) (hW : GtW L o n cur cu) (hl : L.length = n) (hg : L[i]? = some g) : GtW (L.set i (bitG p g h)) o n cur (splice cu (o + i * 7) #[.int .i8 (bitG p g h).x, .int .i8 (bitG p g h).y]) := by
  have ht := bitG_tail p g h
  have hf := hW.ins.fit hg
  have hlt := (List.getElem?_eq_some_iff.1 hg).1
  have hm := Nat.mul_le_mul_right 7 (show i + 1 ≤ n by omega)
  rw [Nat.succ_mul] at hm
  refine ⟨by rw [splice_size _ _ _ (by simp; omega)]; exact hW.size, hW.ins.set hg ht.1 ht.2.1 ht.2.2.1 ht.2.2.2.1 ht.2.2.2.2, fun j hj => ?_⟩
  rw [splice_get _ _ _ (by simp; omega), if_neg (by simp; omega)]
  exact hW.out j hj
end Go.Proofs.Ytnfdefeafhepkaa
namespace Go.Proofs.Ytnfdefeafhepkaa.Wk
open Go Go.RowKit Mem
variable {P : Program} {n : Nat} {O : List Nat} {w0 : World} {l : List (Nat × Value)} {N L : List (Nat × TypeId × Array Value)} {Q : Exit → Act → World → Prop} {ops : Array Oper} {o : Oper} {rest : List Oper} {k d : Nat} {v : Value} {x y : Operand} {Nok : List (Nat × TypeId × Array Value) → Prop} {pl : Nat → CalmE.Plan (List (Nat × TypeId × Array Value))}
theorem s_mksI {t e : TypeId} {bytes m : Nat} (ho : o.op = .makeSlice t x y) (ht : P.underlying t = some (.slice e)) (hi : (P.info? e).map (fun i => (i.zero, i.size, i.bytes)) = some (some (.int .i64 0), 1, bytes)) (hx : ev l x = some (.int .i64 (m : Int))) (hy : ev l y = some (.int .i64 (m : Int))) (hb : bytes * m ≤ 281474976710656) (hn : m ≤ maxLen) (hg : o.guard = none) (hd : o.dst = some d) (hdn : Nat.blt d n = true)
    (h : ∀ g, S P ops Q n O w0 rest ((d, .slice (some ⟨g, 0, none⟩) m m) :: l) ((g, e, intA (List.replicate m 0)) :: L)) : S P ops Q n O w0 (o :: rest) l L := fun a w hF hL => by
  obtain ⟨i, h2, h3, h4, h5⟩ := info_parts hi
  have hb' : (i.bytes : Int) * (m : Int) ≤ 281474976710656 := by
    have h : ((i.bytes * m : Nat) : Int) ≤ 281474976710656 := by rw [h5]; omega
    rwa [Int.natCast_mul] at h
  have hn' : (m : Int) ≤ 9223372036854775807 := by unfold maxLen at hn; omega
  have hr := run_make (P := P) w t e i _ ht h2 h3 .i64 .i64 m m (by omega) (Int.le_refl _) hb' hn'
  simp only [Int.toNat_natCast] at hr
  refine wpl_run hg (v := .slice (some ⟨w.heap.size, 0, none⟩) m m) (w' := w.alloc (.cells (madeCells (Value.int .i64 0).cells (m * i.size)) e)) ?_ ?_
  · simp [execOp, ho, hF.eval hx, hF.eval hy, hr, Result.andThen]
  · rw [h4, made0, hd]
    exact h w.heap.size _ _ (hF.put hdn _) (Own.new hL e _)
theorem z_writeU12 {b0 : Nat × TypeId × Array Value} {N' : List (Nat × TypeId × Array Value)} {g1 g2 : Nat} {T1 T2 : TypeId} {c1 c2 : Array Value} {f : FuncId} {fn : Func} {xs : Array Operand} {ts : Array TypeId} {vs : List Value} {Pf : Array Value → Array Value → Prop} (hf : P.funcs[f]? = some fn) (hname : (fn.name == "runtime.NumGoroutine") = false) (hb : fn.body.isSome = true) (hg : o.guard = none) (hd : o.dst = some d) (hn : Nat.blt d n = true)
    (hop : o.op = .call { callee := .value (.func f), args := xs, argTypes := ts }) (hargs : evs l xs.toList = some vs)
    (hc : ∀ w, Kn O w0 w ((b0 :: (g1, T1, c1) :: (g2, T2, c2) :: N') ++ L) → Calls P f vs.toArray w fun e w' => e = .returned v ∧ ∃ d1 d2, Pf d1 d2 ∧ Upd2 w w' g1 T1 d1 g2 T2 d2) (hex : ∃ d1 d2, Pf d1 d2) (hok : ∀ d1 d2, Pf d1 d2 → Nok (b0 :: (g1, T1, d1) :: (g2, T2, d2) :: N')) (hp : pl k = .inr (fun v' N'' => ∃ i : Array Value × Array Value, Pf i.1 i.2 ∧ v' = v ∧ N'' = b0 :: (g1, T1, i.1) :: (g2, T2, i.2) :: N')) (h : ∀ d1 d2, Pf d1 d2 → Z P ops Q n O w0 Nok pl rest (k + 1) ((d, v) :: l) (b0 :: (g1, T1, d1) :: (g2, T2, d2) :: N') L) : Z P ops Q n O w0 Nok pl (o :: rest) k l (b0 :: (g1, T1, c1) :: (g2, T2, c2) :: N') L :=
  z_write (ι := Array Value × Array Value) (fun i => Pf i.1 i.2) (fun _ => v) (fun i => b0 :: (g1, T1, i.1) :: (g2, T2, i.2) :: N') hf hname hb hg hd hn hop hargs (fun w hL => (hc w hL).mono fun e w' ⟨he, d1, d2, hP, hu⟩ => ⟨(d1, d2), hP, he, Kn.upd2 (i := 1) (j := 2) hL rfl rfl (by omega) hu⟩) (by obtain ⟨d1, d2, h⟩ := hex; exact ⟨(d1, d2), h⟩) (fun i hi => hok i.1 i.2 hi) hp (fun i hi => h i.1 i.2 hi)
theorem Kn.mem_lt {w : World} (h : Kn O w0 w L) {x : Nat × TypeId × Array Value} (hx : x ∈ L) : x.1 < w.heap.size := (Array.getElem?_eq_some_iff.1 (h.has x hx)).1
theorem Kn.comp {w w' : World} (h : Kn O w0 w L) {i j g1 g2 ge : Nat} {T1 T2 Te : TypeId} {c1 c2 d1 d2 ce : Array Value} (hi : L[i]? = some (g1, T1, d1)) (hj : L[j]? = some (g2, T2, d2)) (hij : i ≠ j) (hu : Upd2 w w' g1 T1 c1 g2 T2 c2) (hge : w.heap.size ≤ ge) (hce : w'.heap[ge]? = some (.cells ce Te (0, 0))) : Kn O w0 w' ((ge, Te, ce) :: (L.set i (g1, T1, c1)).set j (g2, T2, c2)) := by
  have h1 := Kn.upd2 h hi hj hij hu
  refine Kn.add h1 (Nat.le_trans h.size hge) (fun x hx e => ?_) hce
  have : x.1 < w.heap.size := by
    rcases List.mem_or_eq_of_mem_set hx with hx | hx
    · rcases List.mem_or_eq_of_mem_set hx with hx | hx
      · exact h.mem_lt hx
      · subst hx; exact h.mem_lt (x := (g1, T1, d1)) (List.mem_of_getElem? hi)
    · subst hx; exact h.mem_lt (x := (g2, T2, d2)) (List.mem_of_getElem? hj)
  omega
theorem Kn.new_ge {w : World} {g1 g2 ge : Nat} {T1 T2 Te : TypeId} {c1 c2 ce : Array Value} (h : Kn [g1, g2] w0 w [(ge, Te, ce), (g1, T1, c1), (g2, T2, c2)]) : w0.heap.size ≤ ge := by
  have hn := h.nodup
  simp only [List.map_cons, List.map_nil, List.nodup_cons, List.mem_cons, not_or] at hn
  rcases h.low (ge, Te, ce) m0 with h1 | h1
  · exact h1
  · simp at h1
    rcases h1 with h1 | h1
    · exact absurd h1 hn.1.1
    · exact absurd h1 hn.1.2.1
end Go.Proofs.Ytnfdefeafhepkaa.Wk
