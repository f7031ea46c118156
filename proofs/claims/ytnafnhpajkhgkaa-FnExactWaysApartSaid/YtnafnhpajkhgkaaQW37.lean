import Derived.Test.YtnafnhpajkhgkaaQW09
import Derived.Test.YtnafnhpajkhgkaaQW20
import Derived.Test.YtnafnhpajkhgkaaQW22
import Derived.Test.YtnafnhpajkhgkaaQW23
import Derived.Test.YtnafnhpajkhgkaaQW24
import Derived.Test.YtnafnhpajkhgkaaQW29
import Derived.Test.YtnafnhpajkhgkaaQW36
/- Ways that close the sides behind them, one after another: plainly. No condition. -/
namespace Go.Proofs.Ytnafnhpajkhgkaa
set_option linter.unusedVariables false
set_option linter.unusedSimpArgs false
open Go.RowKit Mem Wk
attribute [local irreducible] stepsP bfsN bfs
theorem rowV_on (V : BitVec 16) (x : Int) : rowV ((V.toNat : Nat) : Int) x true = ((((V &&& ~~~BitVec.ofInt 16 (shlV .u16 1 x)) ||| BitVec.ofInt 16 (shlV .u16 1 x)).toNat : Nat) : Int) := by
  have h := rowV_off V x
  unfold rowV at h ⊢
  rw [if_neg (by simp)] at h
  rw [if_pos rfl, h]
  show IntKind.u16.wrap (((BitVec.ofInt 16 (((V &&& ~~~BitVec.ofInt 16 (shlV .u16 1 x)).toNat : Nat) : Int) ||| BitVec.ofInt 16 (shlV .u16 1 x)).toNat : Nat) : Int) = _
  rw [bvw2, bvo2]
theorem row_set {v x z : Int} (h0 : 0 ≤ v ∧ v ≤ 65535) (hx : 0 ≤ x ∧ x < 10) (hz : 0 ≤ z ∧ z < 10) : bitB (rowV v x true) z = (decide (x = z) || bitB v z) := by
  obtain ⟨V, rfl⟩ := row_ex h0.1 h0.2
  obtain ⟨n, rfl⟩ : ∃ n : Nat, z = (n : Int) := ⟨z.toNat, by omega⟩
  obtain ⟨m, rfl⟩ : ∃ m : Nat, x = (m : Int) := ⟨x.toNat, by omega⟩
  have hs := shl_get ⟨m, by omega⟩ ⟨n, by omega⟩
  simp only at hs
  rw [rowV_on, bitB_get _ (by omega), bitB_get _ (by omega), BitVec.getLsbD_or, BitVec.getLsbD_and, BitVec.getLsbD_not, hs]
  have e : decide ((⟨m, by omega⟩ : Fin 10) = ⟨n, by omega⟩) = decide ((m : Int) = (n : Int)) := by
    by_cases h : m = n
    · subst h; simp
    · rw [decide_eq_false (fun e => h (by injection e)), decide_eq_false (by omega)]
  rw [e]
  by_cases h : (m : Int) = (n : Int)
  · rw [decide_eq_true h]; simp
  · rw [decide_eq_false h]; simp; omega
theorem put_rowsT {q : Nat → Int} (hq : rowsIn q) {x y : Int} {s : Bool} : rowsIn (putP q x y s true) := fun i h1 h2 => by
  unfold putP
  split
  · by_cases e : i = 112 + y.toNat
    · rw [e, upd_at]; exact rowV_range _ _ _
    · rw [upd_ne _ _ e]; exact hq i h1 h2
  · by_cases e : i = 102 + y.toNat
    · rw [e, upd_at]; exact rowV_range _ _ _
    · rw [upd_ne _ _ e]; exact hq i h1 h2
theorem put_keep {q : Nat → Int} (hq : rowsIn q) {a h : Hd} (hin : hdIn h) (hina : hdIn a) (hs : stP q h = true) : stP (putP q a.x a.y a.s true) h = true := by
  obtain ⟨u, v, s⟩ := h
  obtain ⟨ua, va, sa⟩ := a
  unfold stP standB at hs ⊢
  unfold putP
  obtain ⟨hx, hy⟩ := hin
  obtain ⟨hxa, hya⟩ := hina
  simp only at hx hy hxa hya hs ⊢
  cases s <;> cases sa <;> simp only [Bool.false_eq_true, if_false, if_true] at hs ⊢
  · by_cases e : v = va
    · rw [e] at hs ⊢
      rw [upd_at, row_set (hq _ (by omega) (by omega)) hxa hx, hs, Bool.or_true]
    · rw [upd_ne _ _ (by omega)]; exact hs
  · rw [upd_ne _ _ (by omega)]; exact hs
  · rw [upd_ne _ _ (by omega)]; exact hs
  · by_cases e : v = va
    · rw [e] at hs ⊢
      rw [upd_at, row_set (hq _ (by omega) (by omega)) hxa hx, hs, Bool.or_true]
    · rw [upd_ne _ _ (by omega)]; exact hs
theorem put_this {q : Nat → Int} (hq : rowsIn q) {h : Hd} (hin : hdIn h) : stP (putP q h.x h.y h.s true) h = true := by
  obtain ⟨u, v, s⟩ := h
  unfold stP standB putP
  obtain ⟨hx, hy⟩ := hin
  simp only at hx hy ⊢
  cases s <;> simp only [Bool.false_eq_true, if_false, if_true] <;> rw [upd_at, row_set (hq _ (by omega) (by omega)) hx hx, decide_eq_true rfl, Bool.true_or]

/-! ## how many sides are open -/
theorem allSd_mem2 {p : Nat → Int} (hv : (p 0).toNat ≤ 10 ∧ (p 1).toNat ≤ 10 ∧ p 0 = ((p 0).toNat : Int) ∧ p 1 = ((p 1).toNat : Int)) {h : Hd} (hh : isH p h = true) : h ∈ allSd p := by
  obtain ⟨h1, h2⟩ := isH_cells hh
  obtain ⟨hW10, hH10, hW, hH⟩ := hv
  have hr : (0 ≤ h.x ∧ h.x < p 0) ∧ 0 ≤ h.y ∧ h.y < p 1 := by unfold isC inB at h1; simp at h1; omega
  have hx : h.x.toNat < (p 0).toNat := by omega
  have hy : h.y.toNat + 1 ≤ (p 1).toNat := by omega
  have hm := Nat.mul_le_mul_right (p 0).toNat hy
  rw [Nat.succ_mul] at hm
  have e : cellN (p 0).toNat (h.y.toNat * (p 0).toNat + h.x.toNat) = hAt h := by
    rw [cellN_at _ hx]; unfold hAt
    rw [Int.toNat_of_nonneg hr.1.1, Int.toNat_of_nonneg hr.2.1]
  unfold allSd sdL
  refine List.mem_flatMap.2 ⟨hAt h, List.mem_map.2 ⟨_, List.mem_range.2 (by omega), e⟩, List.mem_filter.2 ⟨?_, hh⟩⟩
  obtain ⟨x, y, s⟩ := h
  cases s <;> simp [hAt]
def opnN (q : Nat → Int) : Nat := ((allSd q).filter fun h => !stP q h).length
theorem filter_lt {α : Type} {f g : α → Bool} {l : List α} (h : ∀ a ∈ l, g a = true → f a = true) {x : α} (hx : x ∈ l) (hf : f x = true) (hg : g x = false) : (l.filter g).length < (l.filter f).length := by
  induction l with
  | nil => cases hx
  | cons a l ih =>
    have h' : ∀ b ∈ l, g b = true → f b = true := fun b hb => h b (by simp [hb])
    have hle : (l.filter g).length ≤ (l.filter f).length := by
      clear ih hx
      induction l with
      | nil => simp
      | cons b l ihl =>
        have h2 := ihl (fun c hc => h c (by rcases List.mem_cons.1 hc with e | e <;> simp [e])) (fun c hc => h' c (by simp [hc]))
        have h3 := h' b (by simp)
        cases hb : g b
        · rw [List.filter_cons_of_neg (by simp [hb])]
          cases hc : f b
          · rw [List.filter_cons_of_neg (by simp [hc])]; exact h2
          · rw [List.filter_cons_of_pos hc]; simp; omega
        · rw [List.filter_cons_of_pos hb, List.filter_cons_of_pos (h3 hb)]; simp; exact h2
    rcases List.mem_cons.1 hx with e | e
    · subst e
      rw [List.filter_cons_of_neg (by simp [hg]), List.filter_cons_of_pos hf]; simp; omega
    · have h2 := ih h' e
      have h3 := h a (by simp)
      cases hb : g a
      · rw [List.filter_cons_of_neg (by simp [hb])]
        cases hc : f a
        · rw [List.filter_cons_of_neg (by simp [hc])]; exact h2
        · rw [List.filter_cons_of_pos hc]; simp; omega
      · rw [List.filter_cons_of_pos hb, List.filter_cons_of_pos (h3 hb)]; simp; exact h2
theorem allSd_wayP (q : Nat → Int) (l : List Sp) (k : Nat) : allSd (wayP q l k) = allSd q := by
  have h0 := wayP_0 q l k
  have h1 := wayP_1 q l k
  have e : isH (wayP q l k) = isH q := by funext h; unfold isH; rw [h0, h1]
  unfold allSd
  rw [h0, h1, e]
section
variable {q : Nat → Int} {l : List Sp}
theorem step_in (h : isW q l) (hl : ∀ c ∈ l, inR c) {k : Nat} {a b : Sp} (ha : l[k]? = some a) (hb : l[k + 1]? = some b) : hdIn (btw a b) := by
  obtain ⟨s, hs, hc, e⟩ := nb_nxt (isW_at h ha hb)
  have hok : okB q a b = true := by
    unfold okB
    rw [List.any_eq_true]
    exact ⟨b, isW_at h ha hb, by unfold eqSp; simp⟩
  exact btw_ok hok (hl a (List.mem_of_getElem? ha))
theorem wayP_keep (hq : rowsIn q) (h : isW q l) (hl : ∀ c ∈ l, inR c) : ∀ k, rowsIn (wayP q l k) ∧ ∀ d, hdIn d → stP q d = true → stP (wayP q l k) d = true
  | 0 => ⟨hq, fun d _ hd => hd⟩
  | k + 1 => by
    have ih := wayP_keep hq h hl k
    cases ha : l[k]? with
    | none => rw [wayP, ha]; exact ih
    | some a =>
      cases hb : l[k + 1]? with
      | none => rw [wayP, ha, hb]; exact ih
      | some b =>
        rw [wayP_succ ha hb]
        unfold stS
        exact ⟨put_rowsT ih.1, fun d hd hs => put_keep ih.1 hd (step_in h hl ha hb) (ih.2 d hd hs)⟩
theorem wayP_shut (hq : rowsIn q) (h : isW q l) (hl : ∀ c ∈ l, inR c) {a b : Sp} (ha : l[0]? = some a) (hb : l[1]? = some b) : ∀ k, stP (wayP q l (k + 1)) (btw a b) = true
  | 0 => by
    rw [wayP_succ ha hb]
    exact put_this hq (step_in h hl ha hb)
  | k + 1 => by
    have ih := wayP_shut hq h hl ha hb k
    have hk := wayP_keep hq h hl (k + 1)
    cases hc : l[k + 1]? with
    | none => rw [wayP, hc]; exact ih
    | some c =>
      cases hd : l[k + 1 + 1]? with
      | none => rw [wayP, hc, hd]; exact ih
      | some d =>
        rw [wayP_succ hc hd]
        exact put_keep hk.1 (step_in h hl ha hb) (step_in h hl hc hd) ih
/-- A way of two cells or more closes a side that was open. -/
theorem opn_less (hv : (q 0).toNat ≤ 10 ∧ (q 1).toNat ≤ 10 ∧ q 0 = ((q 0).toNat : Int) ∧ q 1 = ((q 1).toNat : Int)) (hq : rowsIn q) (h : isW q l) (hl : ∀ c ∈ l, cel q c) (h2 : 2 ≤ l.length) : opnN (wayP q l (l.length - 1)) < opnN q := by
  have hlR : ∀ c ∈ l, inR c := fun c hc => isC_range (hl c hc)
  have ha : l[0]? = some l[0] := List.getElem?_eq_getElem (by omega)
  have hb : l[1]? = some l[1] := List.getElem?_eq_getElem (by omega)
  have hca := hl l[0] (List.getElem_mem (by omega))
  have hcb := hl l[1] (List.getElem_mem (by omega))
  have hn := isW_at h ha hb
  have hin := step_in h hlR ha hb
  have hsh := wayP_shut hq h hlR ha hb (l.length - 1 - 1)
  rw [show l.length - 1 - 1 + 1 = l.length - 1 by omega] at hsh
  have hk := wayP_keep hq h hlR (l.length - 1)
  generalize l[0] = a at *
  generalize l[1] = b at *
  obtain ⟨s, hs, hc, e⟩ := nb_nxt hn
  have hbt : btw a b = hdAt a s := by rw [e]; exact btw_nxt a (s : Int) ⟨by omega, by omega⟩
  have hop : stP q (btw a b) = false := by
    rw [hbt]
    unfold canB at hc
    simp only [Bool.and_eq_true, Bool.not_eq_true'] at hc
    exact hc.2
  have hisH : isH q (btw a b) = true := by
    have he := hdA_ends a s hs
    have hb' : b = nxA a s := e
    have hbt' : btw a b = hdA a s := hbt
    unfold isH
    show (isC (q 0) (q 1) (hAt (btw a b)).x (hAt (btw a b)).y && isC (q 0) (q 1) (hOth (btw a b)).x (hOth (btw a b)).y) = true
    rw [hbt']
    unfold cel at hca hcb
    rcases he with ⟨e1, e2⟩ | ⟨e1, e2⟩
    · rw [e1, e2, ← hb', hca, hcb]; rfl
    · rw [e1, e2, ← hb', hca, hcb]; rfl
  unfold opnN
  rw [allSd_wayP]
  refine filter_lt (fun d hd hg => ?_) (x := btw a b) ?_ (by rw [hop]; rfl) (by rw [hsh]; rfl)
  · have hdR := isC_range (isH_cells (allSd_isH hd)).1
    cases hs2 : stP q d
    · rfl
    · have := hk.2 d ⟨⟨hdR.1, hdR.2.1⟩, hdR.2.2⟩ hs2
      rw [this] at hg; cases hg
  · exact (allSd_mem2 hv hisH)
end
end Go.Proofs.Ytnafnhpajkhgkaa
/- JoinYards: both functions. No condition. -/
namespace Go.Proofs.Ytnafnhpajkhgkaa
set_option linter.unusedVariables false
set_option linter.unusedSimpArgs false
open Go.RowKit Mem Wk
attribute [local irreducible] Calls Wk.S Wk.C Wk.E Wk.X Wk.T Wk.Y Wk.anV Wk.orV Wk.andV Wk.shlV Wk.shrV Calm.wpLex CalmB.wpLex bfsN putP
def othS (h : Hd) : Sp := ⟨nextX h.x (sdOf h.s), nextY h.y (sdOf h.s)⟩
theorem isH_facts {p : Nat → Int} {h : Hd} (hh : isH p h = true) : inR ⟨h.x, h.y⟩ ∧ inR (othS h) := ⟨isC_range (isH_cells hh).1, isC_range (isH_cells hh).2⟩
end Go.Proofs.Ytnafnhpajkhgkaa
/- A region that draws its order, with callees that make slices and callees that read these (XCb), and behind all of them a tail in order; new blocks in it. Plain theorems; no condition. -/
namespace Go.Proofs.Ytnafnhpajkhgkaa.CalmB
set_option linter.unusedVariables false
set_option linter.unusedSimpArgs false
open Go Go.RowKit Mem Calm
section
variable {P : Program} {ops : Array Oper} {md : Region.Mode} {B : Nat} {w0 : World} {pl : Nat → Plan}
def wpAnyLB (P : Program) (md : Region.Mode) (ops : Array Oper) (B : Nat) (w0 : World) (pl : Nat → Plan) (n : Nat) (Lq : Array Bool → Act → Made → Prop) : Nat → Array Bool → Act → Made → Prop
  | 0, listed, a, E => Lq listed a E
  | f + 1, listed, a, E => Region.ready md ops listed ≠ [] ∧ ∀ i ∈ Region.ready md ops listed, i < n ∧ cOp P ops B w0 pl i (wpAnyLB P md ops B w0 pl n Lq f (listed.setIfInBounds i true)) a E
theorem wpAny_of_headB {n g : Nat} {Lq : Array Bool → Act → Made → Prop} {Q' : Exit → Act → World → Prop} (hB : B ≤ w0.heap.size) (hL : ∀ listed a E w, Holds B w0 E w → Lq listed a E → wpAny P md ops Q' g listed a w) :
    ∀ (f : Nat) (listed : Array Bool) (a : Act) (E : Made) (w : World), Holds B w0 E w → wpAnyLB P md ops B w0 pl n Lq f listed a E → wpAny P md ops Q' (f + g) listed a w
  | 0, listed, a, E, w, hw, h => by rw [Nat.zero_add]; exact hL _ _ _ _ hw h
  | f + 1, listed, a, E, w, hw, h => by
    rw [show f + 1 + g = (f + g) + 1 by omega]
    exact ⟨fun h0 => absurd h0 h.1, fun i hi => wpOp_of_cOp hB hw (fun a' E' w' hw' h' => wpAny_of_headB hB hL f _ a' E' w' hw' h') (h.2 i hi).2⟩
theorem wpAnyLB_first {n i : Nat} {oi : Oper} {Lq : Array Bool → Act → Made → Prop} (hi : ops[i]? = some oi) (hsel : ∀ (j : Nat) (o : Oper) cs b, ops[j]? = some o → o.op ≠ .select cs b)
    (hs : Region.sinkB md ops n = true) (hc : Region.chainB md ops n = true) (hn : n < ops.size) (hin : i < n) (hdone : ∀ listed a E, Lq listed a E → ∀ j ∈ Region.ready md ops listed, n ≤ j) :
    ∀ (f : Nat) (listed : Array Bool) (a : Act) (E : Made), Bounded E → HeadInv md ops n listed →
      (∀ j oj, ops[j]? = some oj → j ≠ i → listed.getD j true = false → (∀ e ∈ oj.after, Region.binds md e = true → e.on ≠ i) → oi.apart ops oj = true) →
      i ∈ Region.ready md ops listed → cOp P ops B w0 pl i (wpAnyLB P md ops B w0 pl n Lq f (listed.setIfInBounds i true)) a E → wpAnyLB P md ops B w0 pl n Lq (f + 1) listed a E := by
  intro f
  induction f with
  | zero =>
    intro listed a E hE inv _ hr H
    have hun := (mem_ready.1 hr).1
    refine ⟨fun h => (by rw [h] at hr; cases hr), fun j hj => ?_⟩
    have hjn : j < n := by
      rcases Nat.lt_or_ge j n with h | h
      · exact h
      · exact absurd hj (tail_waits hs hc hn inv _ i rfl hin hun j h)
    refine ⟨hjn, ?_⟩
    by_cases hji : j = i
    · subst hji; exact H
    · exfalso
      exact cOp_no hi a E hE (cOp_mono (fun a E h => by have := hdone _ _ _ h j (ready_mono hj hji); omega) H)
  | succ f ih =>
    intro listed a E hE inv hfree hr H
    have hun := (mem_ready.1 hr).1
    refine ⟨fun h => (by rw [h] at hr; cases hr), fun j hj => ?_⟩
    have hjn : j < n := by
      rcases Nat.lt_or_ge j n with h | h
      · exact h
      · exact absurd hj (tail_waits hs hc hn inv _ i rfl hin hun j h)
    refine ⟨hjn, ?_⟩
    by_cases hji : j = i
    · subst hji; exact H
    · obtain ⟨hjun, oj, hoj, hall⟩ := mem_ready.1 hj
      have hnot : ∀ e ∈ oj.after, Region.binds md e = true → e.on ≠ i := fun e he hb heq => by
        have h1 := hall e he hb
        rw [heq, getD_both hun] at h1
        cases h1
      have hap := hfree j oj hoj hji hjun hnot
      have h1 := cOp_mono (K' := fun a1 E1 => cOp P ops B w0 pl j (wpAnyLB P md ops B w0 pl n Lq f ((listed.setIfInBounds i true).setIfInBounds j true)) a1 E1) (fun a E h => (h.2 j (ready_mono hj hji)).2) H
      have h2 := cOp_swap hi hoj hap (fun cs b => hsel i oi cs b hi) (fun cs b => hsel j oj cs b hoj) hE h1
      refine cOp_mono_bounded hE (fun a' E' hE' h3 => ih (listed.setIfInBounds j true) a' E' hE' (inv.set hj hjn) ?_ (ready_mono hr (Ne.symm hji)) ?_) h2
      · intro k ok hk hki hun hno
        refine hfree k ok hk hki ?_ hno
        by_cases hjk : j = k
        · subst hjk; exact hjun
        · rw [getD_set_ne true hjk] at hun; exact hun
      · rw [Array.setIfInBounds_comm _ _ hji]
        exact h3
theorem wpAnyLB_lex {n g : Nat} {Lq : Act → Made → Prop} (hsel : Region.noSelect ops = true) (hs : Region.sinkB md ops n = true) (hc : Region.chainB md ops n = true) (hn : n < ops.size) :
    ∀ (l : List Oper) (k : Nat) (listed : Array Bool) (a : Act) (E : Made), Bounded E → (∀ j, j < l.length → l[j]? = ops[k + j]?) → k + l.length = n → (∀ j, j < k → listed.getD j true = true) → HeadInv md ops n listed →
    Region.lexHead md ops g l.length k listed = true → wpLex P ops B w0 pl Lq l k a E →
    wpAnyLB P md ops B w0 pl n (fun listed' a' E' => Region.seqB md ops g n listed' = true ∧ Lq a' E') l.length listed a E
  | [], k, listed, a, E, _, hl, hk, _, _, hB, h => by
    have : k = n := by simpa using hk
    subst this
    exact ⟨by simpa [Region.lexHead] using hB, h⟩
  | o :: l, k, listed, a, E, hE, hl, hk, hkk, inv, hB, h => by
    have h0 : ops[k]? = some o := by simpa using (hl 0 (by simp)).symm
    simp only [List.length_cons, Region.lexHead, Bool.and_eq_true] at hB
    obtain ⟨⟨hr, hf⟩, hB'⟩ := hB
    have hkn : k < n := by simp only [List.length_cons] at hk; omega
    have hr' : k ∈ Region.ready md ops listed := by simpa using hr
    have hC : cOp P ops B w0 pl k (wpLex P ops B w0 pl Lq l (k + 1)) a E := by unfold cOp; simp only [h0]; exact h
    refine wpAnyLB_first h0 (Region.noSelect_spec hsel) hs hc hn hkn (fun listed' a' E' hL => seqB_ready hL.1) l.length listed a E hE inv (fun j oj hj hne hun hno => Region.free_spec h0 hf j oj hj hne hun hno) hr' ?_
    refine cOp_mono_bounded hE (fun a' E' hE' h' => wpAnyLB_lex hsel hs hc hn l (k + 1) _ a' E' hE' (fun j hj => by have := hl (j + 1) (by simp; omega); simpa [Nat.add_assoc, Nat.add_comm 1 j] using this) (by simp only [List.length_cons] at hk; omega) (fun j hj => ?_) (inv.set hr' hkn) hB' h') hC
    by_cases hjk : j = k
    · subst hjk
      have hlt : j < listed.size := by rw [inv.size]; omega
      simp [hlt]
    · rw [getD_set_ne true (Ne.symm hjk)]; exact hkk j (by omega)
end
end Go.Proofs.Ytnafnhpajkhgkaa.CalmB
namespace Go.Proofs.Ytnafnhpajkhgkaa.Wk
set_option linter.unusedVariables false
set_option linter.unusedSimpArgs false
open Go Go.RowKit Mem Calm
variable {P : Program} {n : Nat} {O : List Nat} {w0 : World} {l : List (Nat × Value)} {N L : List (Nat × TypeId × Array Value)} {Q : Exit → Act → World → Prop} {ops : Array Oper} {o : Oper} {rest : List Oper} {k d : Nat} {pl : Nat → CalmB.Plan} {v : Value}
theorem c_drawYT {id : Nat} {r : List Oper} (m : Nat) (pl : List CalmB.Plan) (hm : P.follows .mixedOrders = true) (hB : Region.lexTailB .any r.toArray m = true)
    (h : Y P r.toArray (TailQ P r.toArray Q (r.drop m)) n O w0 (fun i => pl.getD i (.inl fun _ => undef)) (r.take m) 0 l [] L) : C P Q n O w0 (.region id r.toArray true) l L := fun a w hF hL => by
  have hx := h a w (fun _ => none) hF hL ⟨by simp, fun _ hb => by cases hb⟩
  simp only [Region.lexTailB, Bool.and_eq_true, decide_eq_true_eq] at hB
  obtain ⟨⟨⟨⟨hsel, hn⟩, hs⟩, hc⟩, hlex⟩ := hB
  have hn' : m < r.length := by simpa using hn
  have htl : (r.take m).length = m := by simp; omega
  have hdl : (r.drop m).length = r.toArray.size - m := by simp
  have inv0 : HeadInv .any r.toArray m (Array.replicate r.toArray.size false) :=
    ⟨by simp, fun j oj _ hl => (by rw [getD_replicate_false] at hl; cases hl), fun t _ ht => getD_in (by simpa using ht) (getD_replicate_false _ _)⟩
  have H := CalmB.wpAnyLB_lex (P := P) (B := w.heap.size) (w0 := w) (pl := fun i => pl.getD i (.inl fun _ => undef)) (md := .any) (g := r.toArray.size - m) hsel hs hc hn (r.take m) 0 _ a (fun _ => none) ⟨0, fun _ _ => rfl⟩ (fun j hj => by
    have hj' : j < m := by rw [htl] at hj; exact hj
    simp [hj']) (by simpa using htl) (fun j hj => by omega) inv0 (by rw [htl]; exact hlex) hx
  refine wp_region_any hm ?_
  have := CalmB.wpAny_of_headB (P := P) (B := w.heap.size) (w0 := w) (Q' := Q) (g := r.toArray.size - m) (Nat.le_refl _) (fun listed a' E' w' hw' hL' => by
    have := wpAny_of_seq (md := .any) (Q' := Q) (r.drop m) m listed a' w' (fun j => by simp [List.getElem?_drop]) (by rw [hdl]; exact hL'.1) (hL'.2 w' hw')
    rwa [hdl] at this) _ _ _ _ { w with drawn := w.drawn + 1 } ⟨⟨rfl, rfl, rfl, Nat.le_refl _, fun _ _ => rfl⟩, fun _ _ _ h => by cases h⟩ H
  rw [htl, show m + (r.toArray.size - m) = r.toArray.size by omega] at this
  exact this
end Go.Proofs.Ytnafnhpajkhgkaa.Wk
/- What keeps a pasture valid. Plain, no condition. -/
namespace Go.Proofs.Ytnafnhpajkhgkaa
set_option linter.unusedVariables false
set_option linter.unusedSimpArgs false
open Go Go.RowKit Mem Wk

theorem bvw (z : BitVec 16) : IntKind.u16.wrap ((z.toNat : Nat) : Int) = (z.toNat : Int) := by
  have := z.isLt
  exact wrap_in (by simp only [Wk.lo, Wk.hi]; omega)
theorem bvo (z : BitVec 16) : BitVec.ofInt 16 ((z.toNat : Nat) : Int) = z := by
  rw [BitVec.ofInt_natCast]; simp
theorem sub_iff {v m : Int} : bits .andNot .u16 v m = 0 ↔ BitVec.ofInt 16 v &&& ~~~BitVec.ofInt 16 m = 0#16 := by
  show IntKind.u16.wrap (((BitVec.ofInt 16 v &&& ~~~BitVec.ofInt 16 m).toNat : Nat) : Int) = 0 ↔ _
  rw [bvw]
  constructor
  · intro h; apply BitVec.eq_of_toNat_eq; simpa using h
  · intro h; rw [h]; rfl
theorem put_sub {v s m : Int} (hv : bits .andNot .u16 v m = 0) (hs : bits .andNot .u16 s m = 0) : bits .andNot .u16 (orV .u16 (anV .u16 v s) s) m = 0 := by
  rw [sub_iff] at hv hs ⊢
  have e1 : BitVec.ofInt 16 (anV .u16 v s) = BitVec.ofInt 16 v &&& ~~~BitVec.ofInt 16 s := by
    show BitVec.ofInt 16 (IntKind.u16.wrap (((BitVec.ofInt 16 v &&& ~~~BitVec.ofInt 16 s).toNat : Nat) : Int)) = _
    rw [bvw, bvo]
  have e2 : BitVec.ofInt 16 (orV .u16 (anV .u16 v s) s) = BitVec.ofInt 16 (anV .u16 v s) ||| BitVec.ofInt 16 s := by
    show BitVec.ofInt 16 (IntKind.u16.wrap (((BitVec.ofInt 16 (anV .u16 v s) ||| BitVec.ofInt 16 s).toNat : Nat) : Int)) = _
    rw [bvw, bvo]
  rw [e2, e1]
  generalize BitVec.ofInt 16 v = V at *
  generalize BitVec.ofInt 16 s = S at *
  generalize BitVec.ofInt 16 m = M at *
  apply BitVec.eq_of_getLsbD_eq
  intro i hi
  have h1 := congrArg (fun z : BitVec 16 => z.getLsbD i) hv
  have h2 := congrArg (fun z : BitVec 16 => z.getLsbD i) hs
  simp only [BitVec.getLsbD_and, BitVec.getLsbD_not, BitVec.getLsbD_or, BitVec.getLsbD_zero, hi, decide_true, Bool.true_and] at h1 h2 ⊢
  revert h1 h2
  generalize V.getLsbD i = a
  generalize S.getLsbD i = b
  generalize M.getLsbD i = c
  cases a <;> cases b <;> cases c <;> simp
theorem valid_parts {p : Nat → Int} : validP p = true ↔ inB (p 0) 1 10 = true ∧ inB (p 1) 1 10 = true ∧ ∀ y, y < 10 → (∀ x, x < 10 → gOk p y x = true) ∧ eOk p y = true ∧ sOk p y = true := by
  unfold validP rowOk
  simp only [Bool.and_eq_true, all_range]
end Go.Proofs.Ytnafnhpajkhgkaa
/- A hurdle between two cells keeps a pasture valid. Plain, no condition. -/
namespace Go.Proofs.Ytnafnhpajkhgkaa
set_option linter.unusedVariables false
set_option linter.unusedSimpArgs false
open Go Go.RowKit Mem Wk

set_option maxRecDepth 100000 in
theorem eM_bitT : ∀ a b y x : Fin 10, isC ((a.val : Int) + 1) ((b.val : Int) + 1) (x.val : Int) (y.val : Int) = true → isC ((a.val : Int) + 1) ((b.val : Int) + 1) ((x.val : Int) + 1) (y.val : Int) = true → bits .andNot .u16 (shlV .u16 1 (x.val : Int)) (eM ((a.val : Int) + 1) ((b.val : Int) + 1) (y.val : Int) 10) = 0 := by
  decide +kernel
set_option maxRecDepth 100000 in
theorem sM_bitT : ∀ a b y x : Fin 10, isC ((a.val : Int) + 1) ((b.val : Int) + 1) (x.val : Int) (y.val : Int) = true → isC ((a.val : Int) + 1) ((b.val : Int) + 1) (x.val : Int) ((y.val : Int) + 1) = true → bits .andNot .u16 (shlV .u16 1 (x.val : Int)) (sM ((a.val : Int) + 1) ((b.val : Int) + 1) (y.val : Int) 10) = 0 := by
  decide +kernel
theorem fin10 {n : Int} (h1 : 0 ≤ n) (h2 : n < 10) : ∃ k : Fin 10, n = (k.val : Int) := ⟨⟨n.toNat, by omega⟩, by simp; omega⟩
theorem valid_putT {p : Nat → Int} (hv : validP p = true) {x y : Int} {s : Bool} (hh : isH p ⟨x, y, s⟩ = true) : validP (putP p x y s true) = true := by
  obtain ⟨hr, h1, h2⟩ := isH_facts hh
  have hs : (1 ≤ p 0 ∧ p 0 ≤ 10) ∧ 1 ≤ p 1 ∧ p 1 ≤ 10 := by unfold validP inB at hv; simp at hv; omega
  have hk := fun i (hi : i < 102) => putP_keep p x y s true hi
  rw [valid_parts] at hv ⊢
  rw [hk 0 (by omega), hk 1 (by omega)]
  obtain ⟨hW, hH, hrow⟩ := hv
  refine ⟨hW, hH, fun yy hyy => ?_⟩
  obtain ⟨hg, he, hso⟩ := hrow yy hyy
  refine ⟨fun xx hxx => ?_, ?_, ?_⟩
  · have := hg xx hxx
    unfold gOk at this ⊢
    rw [hk 0 (by omega), hk 1 (by omega), hk _ (by omega)]
    exact this
  · unfold eOk at he ⊢
    rw [hk 0 (by omega), hk 1 (by omega)]
    cases s
    case true =>
      unfold putP
      rw [if_pos rfl, upd_ne _ _ (by omega)]
      exact he
    case false =>
      have hc := isH_cells hh
      unfold putP
      rw [if_neg (by simp)]
      by_cases e : 102 + yy = 102 + y.toNat
      · rw [e, upd_at]
        obtain ⟨a, ea⟩ := fin10 (n := p 0 - 1) (by have := hs.1; omega) (by have := hs.1; omega)
        obtain ⟨b, eb⟩ := fin10 (n := p 1 - 1) (by have := hs.2; omega) (by have := hs.2; omega)
        have hcx := hc.1
        unfold isC inB at hcx
        simp at hcx
        have hs1 := hs.1
        have hs2 := hs.2
        obtain ⟨xf, ex⟩ := fin10 (n := x) (by omega) (by omega)
        obtain ⟨yf, ey⟩ := fin10 (n := y) (by omega) (by omega)
        have e0 : p 0 = (a.val : Int) + 1 := by omega
        have e1 : p 1 = (b.val : Int) + 1 := by omega
        have hyy : (yy : Int) = y := by omega
        have hb := eM_bitT a b yf xf (by rw [← e0, ← e1, ← ex, ← ey]; exact hc.1) (by
          have := hc.2
          simp [sdOf, nextX, nextY] at this
          rw [← e0, ← e1, ← ex, ← ey]; exact this)
        rw [← e0, ← e1, ← ex, ← ey] at hb
        apply decide_eq_true
        have he2 := of_decide_eq_true he
        rw [e] at he2
        unfold rowV
        rw [if_pos rfl]
        rw [hyy] at he2 ⊢
        exact put_sub he2 hb
      · rw [upd_ne _ _ e]; exact he
  · unfold sOk at hso ⊢
    rw [hk 0 (by omega), hk 1 (by omega)]
    cases s
    case false =>
      unfold putP
      rw [if_neg (by simp), upd_ne _ _ (by have := hr.2.2.2; have := hr.2.2.1; simp only at *; omega)]
      exact hso
    case true =>
      have hc := isH_cells hh
      unfold putP
      rw [if_pos rfl]
      by_cases e : 112 + yy = 112 + y.toNat
      · rw [e, upd_at]
        obtain ⟨a, ea⟩ := fin10 (n := p 0 - 1) (by have := hs.1; omega) (by have := hs.1; omega)
        obtain ⟨b, eb⟩ := fin10 (n := p 1 - 1) (by have := hs.2; omega) (by have := hs.2; omega)
        have hcx := hc.1
        unfold isC inB at hcx
        simp at hcx
        have hs1 := hs.1
        have hs2 := hs.2
        obtain ⟨xf, ex⟩ := fin10 (n := x) (by omega) (by omega)
        obtain ⟨yf, ey⟩ := fin10 (n := y) (by omega) (by omega)
        have e0 : p 0 = (a.val : Int) + 1 := by omega
        have e1 : p 1 = (b.val : Int) + 1 := by omega
        have hyy : (yy : Int) = y := by omega
        have hb := sM_bitT a b yf xf (by rw [← e0, ← e1, ← ex, ← ey]; exact hc.1) (by
          have := hc.2
          simp [sdOf, nextX, nextY] at this
          rw [← e0, ← e1, ← ex, ← ey]; exact this)
        rw [← e0, ← e1, ← ex, ← ey] at hb
        apply decide_eq_true
        have he2 := of_decide_eq_true hso
        rw [e] at he2
        unfold rowV
        rw [if_pos rfl]
        rw [hyy] at he2 ⊢
        exact put_sub he2 hb
      · rw [upd_ne _ _ e]; exact hso
end Go.Proofs.Ytnafnhpajkhgkaa
