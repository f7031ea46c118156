import Derived.Test.YtdnndidihedndaaRRQg09
import Derived.Test.YtdnndidihedndaaRRQg20
/- A region that draws its order, with callees that make slices and callees that read these (XCb), and behind all of them a tail in order; new blocks in it. Plain theorems; no condition. -/
namespace Go.Proofs.YtdnndidihedndaaRR.CalmB
set_option linter.unusedVariables false
set_option linter.unusedSimpArgs false
open Go Go.RowKit Mem Calm
section
variable {P : Program} {ops : Array Oper} {md : Region.Mode} {B : Nat} {w0 : World} {pl : Nat → Plan}
def wpAnyLB (P : Program) (md : Region.Mode) (ops : Array Oper) (B : Nat) (w0 : World) (pl : Nat → Plan) (n : Nat) (Lq : Array Bool → Act → Made → Prop) : Nat → Array Bool → Act → Made → Prop
  | 0, listed, a, E => Lq listed a E
  | f + 1, listed, a, E => Region.ready md ops listed ≠ [] ∧ ∀ i ∈ Region.ready md ops listed, i < n ∧ cOp P ops B w0 pl i (wpAnyLB P md ops B w0 pl n Lq f (listed.setIfInBounds i true)) a E
theorem wpAny_of_headB {n g : Nat} {Lq : Array Bool → Act → Made → Prop} {Q' : Exit → Act → World → Prop} (hB : B ≤ w0.heap.size) (hL : ∀ listed a E w, Holds B w0 E w → Lq listed a E → wpAny P md ops Q' g listed a w) :
    ∀ (f : Nat) (listed : Array Bool) (a : Act) (E : Made) (w : World), Holds B w0 E w → wpAnyLB P md ops B w0 pl n Lq f listed a E → wpAny P md ops Q' (f + g) listed a w
  | 0, listed, a, E, w, hw, h => by rw [Nat.zero_add]; exact hL _ _ _ _ hw h
  | f + 1, listed, a, E, w, hw, h => by
    rw [show f + 1 + g = (f + g) + 1 by omega]
    exact ⟨fun h0 => absurd h0 h.1, fun i hi => wpOp_of_cOp hB hw (fun a' E' w' hw' h' => wpAny_of_headB hB hL f _ a' E' w' hw' h') (h.2 i hi).2⟩
theorem wpAnyLB_first {n i : Nat} {oi : Oper} {Lq : Array Bool → Act → Made → Prop} (hi : ops[i]? = some oi) (hsel : ∀ (j : Nat) (o : Oper) cs b, ops[j]? = some o → o.op ≠ .select cs b)
    (hs : Region.sinkB md ops n = true) (hc : Region.chainB md ops n = true) (hn : n < ops.size) (hin : i < n) (hdone : ∀ listed a E, Lq listed a E → ∀ j ∈ Region.ready md ops listed, n ≤ j) :
    ∀ (f : Nat) (listed : Array Bool) (a : Act) (E : Made), Bounded E → HeadInv md ops n listed →
      (∀ j oj, ops[j]? = some oj → j ≠ i → listed.getD j true = false → (∀ e ∈ oj.after, Region.binds md e = true → e.on ≠ i) → oi.apart ops oj = true) →
      i ∈ Region.ready md ops listed → cOp P ops B w0 pl i (wpAnyLB P md ops B w0 pl n Lq f (listed.setIfInBounds i true)) a E → wpAnyLB P md ops B w0 pl n Lq (f + 1) listed a E := by
  intro f
  induction f with
  | zero =>
    intro listed a E hE inv _ hr H
    have hun := (mem_ready.1 hr).1
    refine ⟨fun h => (by rw [h] at hr; cases hr), fun j hj => ?_⟩
    have hjn : j < n := by
      rcases Nat.lt_or_ge j n with h | h
      · exact h
      · exact absurd hj (tail_waits hs hc hn inv _ i rfl hin hun j h)
    refine ⟨hjn, ?_⟩
    by_cases hji : j = i
    · subst hji; exact H
    · exfalso
      exact cOp_no hi a E hE (cOp_mono (fun a E h => by have := hdone _ _ _ h j (ready_mono hj hji); omega) H)
  | succ f ih =>
    intro listed a E hE inv hfree hr H
    have hun := (mem_ready.1 hr).1
    refine ⟨fun h => (by rw [h] at hr; cases hr), fun j hj => ?_⟩
    have hjn : j < n := by
      rcases Nat.lt_or_ge j n with h | h
      · exact h
      · exact absurd hj (tail_waits hs hc hn inv _ i rfl hin hun j h)
    refine ⟨hjn, ?_⟩
    by_cases hji : j = i
    · subst hji; exact H
    · obtain ⟨hjun, oj, hoj, hall⟩ := mem_ready.1 hj
      have hnot : ∀ e ∈ oj.after, Region.binds md e = true → e.on ≠ i := fun e he hb heq => by
        have h1 := hall e he hb
        rw [heq, getD_both hun] at h1
        cases h1
      have hap := hfree j oj hoj hji hjun hnot
      have h1 := cOp_mono (K' := fun a1 E1 => cOp P ops B w0 pl j (wpAnyLB P md ops B w0 pl n Lq f ((listed.setIfInBounds i true).setIfInBounds j true)) a1 E1) (fun a E h => (h.2 j (ready_mono hj hji)).2) H
      have h2 := cOp_swap hi hoj hap (fun cs b => hsel i oi cs b hi) (fun cs b => hsel j oj cs b hoj) hE h1
      refine cOp_mono_bounded hE (fun a' E' hE' h3 => ih (listed.setIfInBounds j true) a' E' hE' (inv.set hj hjn) ?_ (ready_mono hr (Ne.symm hji)) ?_) h2
      · intro k ok hk hki hun hno
        refine hfree k ok hk hki ?_ hno
        by_cases hjk : j = k
        · subst hjk; exact hjun
        · rw [getD_set_ne true hjk] at hun; exact hun
      · rw [Array.setIfInBounds_comm _ _ hji]
        exact h3
theorem wpAnyLB_lex {n g : Nat} {Lq : Act → Made → Prop} (hsel : Region.noSelect ops = true) (hs : Region.sinkB md ops n = true) (hc : Region.chainB md ops n = true) (hn : n < ops.size) :
    ∀ (l : List Oper) (k : Nat) (listed : Array Bool) (a : Act) (E : Made), Bounded E → (∀ j, j < l.length → l[j]? = ops[k + j]?) → k + l.length = n → (∀ j, j < k → listed.getD j true = true) → HeadInv md ops n listed →
    Region.lexHead md ops g l.length k listed = true → wpLex P ops B w0 pl Lq l k a E →
    wpAnyLB P md ops B w0 pl n (fun listed' a' E' => Region.seqB md ops g n listed' = true ∧ Lq a' E') l.length listed a E
  | [], k, listed, a, E, _, hl, hk, _, _, hB, h => by
    have : k = n := by simpa using hk
    subst this
    exact ⟨by simpa [Region.lexHead] using hB, h⟩
  | o :: l, k, listed, a, E, hE, hl, hk, hkk, inv, hB, h => by
    have h0 : ops[k]? = some o := by simpa using (hl 0 (by simp)).symm
    simp only [List.length_cons, Region.lexHead, Bool.and_eq_true] at hB
    obtain ⟨⟨hr, hf⟩, hB'⟩ := hB
    have hkn : k < n := by simp only [List.length_cons] at hk; omega
    have hr' : k ∈ Region.ready md ops listed := by simpa using hr
    have hC : cOp P ops B w0 pl k (wpLex P ops B w0 pl Lq l (k + 1)) a E := by unfold cOp; simp only [h0]; exact h
    refine wpAnyLB_first h0 (Region.noSelect_spec hsel) hs hc hn hkn (fun listed' a' E' hL => seqB_ready hL.1) l.length listed a E hE inv (fun j oj hj hne hun hno => Region.free_spec h0 hf j oj hj hne hun hno) hr' ?_
    refine cOp_mono_bounded hE (fun a' E' hE' h' => wpAnyLB_lex hsel hs hc hn l (k + 1) _ a' E' hE' (fun j hj => by have := hl (j + 1) (by simp; omega); simpa [Nat.add_assoc, Nat.add_comm 1 j] using this) (by simp only [List.length_cons] at hk; omega) (fun j hj => ?_) (inv.set hr' hkn) hB' h') hC
    by_cases hjk : j = k
    · subst hjk
      have hlt : j < listed.size := by rw [inv.size]; omega
      simp [hlt]
    · rw [getD_set_ne true (Ne.symm hjk)]; exact hkk j (by omega)
end
end Go.Proofs.YtdnndidihedndaaRR.CalmB
namespace Go.Proofs.YtdnndidihedndaaRR.Wk
set_option linter.unusedVariables false
set_option linter.unusedSimpArgs false
open Go Go.RowKit Mem Calm
variable {P : Program} {n : Nat} {O : List Nat} {w0 : World} {l : List (Nat × Value)} {N L : List (Nat × TypeId × Array Value)} {Q : Exit → Act → World → Prop} {ops : Array Oper} {o : Oper} {rest : List Oper} {k d : Nat} {pl : Nat → CalmB.Plan} {v : Value}
theorem c_drawYT {id : Nat} {r : List Oper} (m : Nat) (pl : List CalmB.Plan) (hm : P.follows .mixedOrders = true) (hB : Region.lexTailB .any r.toArray m = true)
    (h : Y P r.toArray (TailQ P r.toArray Q (r.drop m)) n O w0 (fun i => pl.getD i (.inl fun _ => undef)) (r.take m) 0 l [] L) : C P Q n O w0 (.region id r.toArray true) l L := fun a w hF hL => by
  have hx := h a w (fun _ => none) hF hL ⟨by simp, fun _ hb => by cases hb⟩
  simp only [Region.lexTailB, Bool.and_eq_true, decide_eq_true_eq] at hB
  obtain ⟨⟨⟨⟨hsel, hn⟩, hs⟩, hc⟩, hlex⟩ := hB
  have hn' : m < r.length := by simpa using hn
  have htl : (r.take m).length = m := by simp; omega
  have hdl : (r.drop m).length = r.toArray.size - m := by simp
  have inv0 : HeadInv .any r.toArray m (Array.replicate r.toArray.size false) :=
    ⟨by simp, fun j oj _ hl => (by rw [getD_replicate_false] at hl; cases hl), fun t _ ht => getD_in (by simpa using ht) (getD_replicate_false _ _)⟩
  have H := CalmB.wpAnyLB_lex (P := P) (B := w.heap.size) (w0 := w) (pl := fun i => pl.getD i (.inl fun _ => undef)) (md := .any) (g := r.toArray.size - m) hsel hs hc hn (r.take m) 0 _ a (fun _ => none) ⟨0, fun _ _ => rfl⟩ (fun j hj => by
    have hj' : j < m := by rw [htl] at hj; exact hj
    simp [hj']) (by simpa using htl) (fun j hj => by omega) inv0 (by rw [htl]; exact hlex) hx
  refine wp_region_any hm ?_
  have := CalmB.wpAny_of_headB (P := P) (B := w.heap.size) (w0 := w) (Q' := Q) (g := r.toArray.size - m) (Nat.le_refl _) (fun listed a' E' w' hw' hL' => by
    have := wpAny_of_seq (md := .any) (Q' := Q) (r.drop m) m listed a' w' (fun j => by simp [List.getElem?_drop]) (by rw [hdl]; exact hL'.1) (hL'.2 w' hw')
    rwa [hdl] at this) _ _ _ _ { w with drawn := w.drawn + 1 } ⟨⟨rfl, rfl, rfl, Nat.le_refl _, fun _ _ => rfl⟩, fun _ _ _ h => by cases h⟩ H
  rw [htl, show m + (r.toArray.size - m) = r.toArray.size by omega] at this
  exact this
def AlcM (T : TypeId) (cs : Array Value) : Value → Nat → TypeId × Array Value → Prop := fun u g x => u = .pointer (some ⟨g, 0, none⟩) ∧ x = (T, cs)
theorem y_allocA {T : TypeId} {cs : Array Value} (ho : o.op = .alloc T) (hz : (P.info? T).map (·.zero) = some (some (.agg cs)))
    (hg : o.guard = none) (hd : o.dst = some d) (hn : Nat.blt d n = true) (hpl : pl k = .inr (AlcM T cs)) (h : ∀ g, Y P ops Q n O w0 pl rest (k + 1) ((d, .pointer (some ⟨g, 0, none⟩)) :: l) ((g, T, cs) :: N) L) : Y P ops Q n O w0 pl (o :: rest) k l N L := fun a w E hF hL hE => by
  unfold CalmB.wpLex
  rw [if_pos (by simp [Region.wanted, hg])]
  unfold CalmB.pOp
  rw [hpl]
  refine ⟨fun N0 => ⟨.pointer (some ⟨N0, 0, none⟩), N0, (T, cs), Nat.le_refl _, rfl, rfl⟩, ⟨[], fun r hr => (by cases hr), fun w' hb' _ => ?_⟩, fun u g x hM hB he => ?_⟩
  · show CalmB.mkAt P o a w' _
    have hx : (execOp a.eval o).run P w' = .ok (.value (.pointer (some ⟨w'.heap.size, 0, none⟩))) (w'.alloc (.cells cs T (0, 0))) := by have q := n_alloc (P := P) (n := n) (l := l) ho hz (rfl : (Value.agg cs).cells = cs) a w' hF; exact q
    unfold CalmB.mkAt
    rw [hx]
    exact ⟨w'.heap.size, (T, cs), ⟨rfl, rfl⟩, Nat.le_refl _, (Own.new (Own.start w') T cs).has _ (by simp), (Own.new (Own.start w') T cs).toBelow⟩
  · obtain ⟨rfl, rfl⟩ := hM
    rw [hd]
    refine h g _ w _ (hF.put hn _) hL ⟨?_, fun b hb => ?_⟩
    · simp only [List.map_cons, List.nodup_cons, List.mem_map, not_exists, not_and]
      exact ⟨fun b hb e => (by have := hE.2 b hb; rw [e, he] at this; cases this), hE.1⟩
    · rcases List.mem_cons.1 hb with rfl | hb
      · exact Calm.upd_same _ _ _
      · rw [Calm.upd_ne _ _ (fun e => by have := hE.2 b hb; rw [e, he] at this; cases this)]; exact hE.2 b hb
end Go.Proofs.YtdnndidihedndaaRR.Wk
