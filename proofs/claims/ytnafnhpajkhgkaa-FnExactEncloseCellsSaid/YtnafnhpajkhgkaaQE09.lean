import Derived.Test.YtnafnhpajkhgkaaQE02
import Derived.Test.YtnafnhpajkhgkaaQE04
import Derived.Test.YtnafnhpajkhgkaaQE08
/- A region that draws its order: calm operations, and behind all of them a tail in order, which may write. Plain theorems; no condition. -/
namespace Go.Proofs.Ytnafnhpajkhgkaa.Wk
set_option linter.unusedVariables false
set_option linter.unusedSimpArgs false
open Go Go.RowKit Mem Calm
section
variable {P : Program} {ops : Array Oper} {md : Region.Mode} {B : Nat} {w0 : World} {pl : Nat → Plan}
def wpAnyLC (P : Program) (md : Region.Mode) (ops : Array Oper) (B : Nat) (w0 : World) (pl : Nat → Plan) (n : Nat) (Lq : Array Bool → Act → Made → Prop) : Nat → Array Bool → Act → Made → Prop
  | 0, listed, a, E => Lq listed a E
  | f + 1, listed, a, E => Region.ready md ops listed ≠ [] ∧ ∀ i ∈ Region.ready md ops listed, i < n ∧ cOp P ops B w0 pl i (wpAnyLC P md ops B w0 pl n Lq f (listed.setIfInBounds i true)) a E
theorem wpAny_of_headC {n g : Nat} {Lq : Array Bool → Act → Made → Prop} {Q' : Exit → Act → World → Prop} (hB : B ≤ w0.heap.size) (hL : ∀ listed a E w, Holds B w0 E w → Lq listed a E → wpAny P md ops Q' g listed a w) :
    ∀ (f : Nat) (listed : Array Bool) (a : Act) (E : Made) (w : World), Holds B w0 E w → wpAnyLC P md ops B w0 pl n Lq f listed a E → wpAny P md ops Q' (f + g) listed a w
  | 0, listed, a, E, w, hw, h => by rw [Nat.zero_add]; exact hL _ _ _ _ hw h
  | f + 1, listed, a, E, w, hw, h => by
    rw [show f + 1 + g = (f + g) + 1 by omega]
    exact ⟨fun h0 => absurd h0 h.1, fun i hi => wpOp_of_cOp hB hw (fun a' E' w' hw' h' => wpAny_of_headC hB hL f _ a' E' w' hw' h') (h.2 i hi).2⟩
theorem cOp_no {i : Nat} {oi : Oper} (hi : ops[i]? = some oi) (a : Act) (E : Made) (hE : Bounded E) : ¬ cOp P ops B w0 pl i (fun _ _ => False) a E := by
  intro h
  unfold cOp at h
  simp only [hi] at h
  split at h
  · generalize pl i = p at h
    match p with
    | .inl v => exact h.2
    | .inr (false, T, cs) => obtain ⟨g, g1, g2, _⟩ := hE.fresh B 0; exact h.2 g g1 g2
    | .inr (true, T, cs) => obtain ⟨_, _, _, _, _, _, _, _, _, _, h⟩ := h; exact h
  · exact h
theorem wpAnyLC_first {n i : Nat} {oi : Oper} {Lq : Array Bool → Act → Made → Prop} (hi : ops[i]? = some oi) (hsel : ∀ (j : Nat) (o : Oper) cs b, ops[j]? = some o → o.op ≠ .select cs b)
    (hs : Region.sinkB md ops n = true) (hc : Region.chainB md ops n = true) (hn : n < ops.size) (hin : i < n) (hdone : ∀ listed a E, Lq listed a E → ∀ j ∈ Region.ready md ops listed, n ≤ j) :
    ∀ (f : Nat) (listed : Array Bool) (a : Act) (E : Made), Bounded E → HeadInv md ops n listed →
      (∀ j oj, ops[j]? = some oj → j ≠ i → listed.getD j true = false → (∀ e ∈ oj.after, Region.binds md e = true → e.on ≠ i) → oi.apart ops oj = true ∧ (isStore oi = false ∨ isStore oj = false)) →
      i ∈ Region.ready md ops listed → cOp P ops B w0 pl i (wpAnyLC P md ops B w0 pl n Lq f (listed.setIfInBounds i true)) a E → wpAnyLC P md ops B w0 pl n Lq (f + 1) listed a E := by
  intro f
  induction f with
  | zero =>
    intro listed a E hE inv _ hr H
    have hun := (mem_ready.1 hr).1
    refine ⟨fun h => (by rw [h] at hr; cases hr), fun j hj => ?_⟩
    have hjn : j < n := by
      rcases Nat.lt_or_ge j n with h | h
      · exact h
      · exact absurd hj (tail_waits hs hc hn inv _ i rfl hin hun j h)
    refine ⟨hjn, ?_⟩
    by_cases hji : j = i
    · subst hji; exact H
    · exfalso
      exact cOp_no hi a E hE (cOp_mono (fun a E h => by have := hdone _ _ _ h j (ready_mono hj hji); omega) H)
  | succ f ih =>
    intro listed a E hE inv hfree hr H
    have hun := (mem_ready.1 hr).1
    refine ⟨fun h => (by rw [h] at hr; cases hr), fun j hj => ?_⟩
    have hjn : j < n := by
      rcases Nat.lt_or_ge j n with h | h
      · exact h
      · exact absurd hj (tail_waits hs hc hn inv _ i rfl hin hun j h)
    refine ⟨hjn, ?_⟩
    by_cases hji : j = i
    · subst hji; exact H
    · obtain ⟨hjun, oj, hoj, hall⟩ := mem_ready.1 hj
      have hnot : ∀ e ∈ oj.after, Region.binds md e = true → e.on ≠ i := fun e he hb heq => by
        have h1 := hall e he hb
        rw [heq, getD_both hun] at h1
        cases h1
      obtain ⟨hap, hst⟩ := hfree j oj hoj hji hjun hnot
      have h1 := cOp_mono (K' := fun a1 E1 => cOp P ops B w0 pl j (wpAnyLC P md ops B w0 pl n Lq f ((listed.setIfInBounds i true).setIfInBounds j true)) a1 E1) (fun a E h => (h.2 j (ready_mono hj hji)).2) H
      have h2 := cOp_swap hi hoj hap hst (fun cs b => hsel i oi cs b hi) (fun cs b => hsel j oj cs b hoj) hE h1
      refine cOp_mono_bounded hE (fun a' E' hE' h3 => ih (listed.setIfInBounds j true) a' E' hE' (inv.set hj hjn) ?_ (ready_mono hr (Ne.symm hji)) ?_) h2
      · intro k ok hk hki hun hno
        refine hfree k ok hk hki ?_ hno
        by_cases hjk : j = k
        · subst hjk; exact hjun
        · rw [getD_set_ne true hjk] at hun; exact hun
      · rw [Array.setIfInBounds_comm _ _ hji]
        exact h3
theorem wpAnyLC_lex {n g : Nat} {Lq : Act → Made → Prop} (hsel : Region.noSelect ops = true) (hst : storesB md ops = true) (hs : Region.sinkB md ops n = true) (hc : Region.chainB md ops n = true) (hn : n < ops.size) :
    ∀ (l : List Oper) (k : Nat) (listed : Array Bool) (a : Act) (E : Made), Bounded E → (∀ j, j < l.length → l[j]? = ops[k + j]?) → k + l.length = n → (∀ j, j < k → listed.getD j true = true) → HeadInv md ops n listed →
    Region.lexHead md ops g l.length k listed = true → wpLex P ops B w0 pl Lq l k a E →
    wpAnyLC P md ops B w0 pl n (fun listed' a' E' => Region.seqB md ops g n listed' = true ∧ Lq a' E') l.length listed a E
  | [], k, listed, a, E, _, hl, hk, _, _, hB, h => by
    have : k = n := by simpa using hk
    subst this
    exact ⟨by simpa [Region.lexHead] using hB, h⟩
  | o :: l, k, listed, a, E, hE, hl, hk, hkk, inv, hB, h => by
    have h0 : ops[k]? = some o := by simpa using (hl 0 (by simp)).symm
    simp only [List.length_cons, Region.lexHead, Bool.and_eq_true] at hB
    obtain ⟨⟨hr, hf⟩, hB'⟩ := hB
    have hkn : k < n := by simp only [List.length_cons] at hk; omega
    have hr' : k ∈ Region.ready md ops listed := by simpa using hr
    have hC : cOp P ops B w0 pl k (wpLex P ops B w0 pl Lq l (k + 1)) a E := by unfold cOp; simp only [h0]; exact h
    refine wpAnyLC_first h0 (Region.noSelect_spec hsel) hs hc hn hkn (fun listed' a' E' hL => seqB_ready hL.1) l.length listed a E hE inv (fun j oj hj hne hun hno => ⟨Region.free_spec h0 hf j oj hj hne hun hno, ?_⟩) hr' ?_
    · cases hso : isStore o with
      | false => exact .inl rfl
      | true =>
        cases hsj : isStore oj with
        | false => exact .inr rfl
        | true =>
          exfalso
          have hgt : k < j := by
            rcases Nat.lt_or_ge j k with h' | h'
            · rw [hkk j h'] at hun; cases hun
            · omega
          obtain ⟨e, he, hb, heq⟩ := storesB_spec hst h0 hj hgt hso hsj
          exact hno e he hb heq
    · refine cOp_mono_bounded hE (fun a' E' hE' h' => wpAnyLC_lex hsel hst hs hc hn l (k + 1) _ a' E' hE' (fun j hj => by have := hl (j + 1) (by simp; omega); simpa [Nat.add_assoc, Nat.add_comm 1 j] using this) (by simp only [List.length_cons] at hk; omega) (fun j hj => ?_) (inv.set hr' hkn) hB' h') hC
      by_cases hjk : j = k
      · subst hjk
        have hlt : j < listed.size := by rw [inv.size]; omega
        simp [hlt]
      · rw [getD_set_ne true (Ne.symm hjk)]; exact hkk j (by omega)
end
/-- What stands behind the tail. -/
def TailQ (P : Program) (ops : Array Oper) (Q : Exit → Act → World → Prop) (tail : List Oper) : Exit → Act → World → Prop := fun _ a w => wpList P ops Q tail a w
variable {P : Program} {n : Nat} {O : List Nat} {w0 : World} {l : List (Nat × Value)} {L : List (Nat × TypeId × Array Value)} {Q : Exit → Act → World → Prop} {ops : Array Oper}
theorem e_tail {tail : List Oper} (h : S P ops Q n O w0 tail l L) : E (TailQ P ops Q tail) n O w0 .normal l L := fun a w hF hL => h a w hF hL
theorem c_drawXT {id : Nat} {r : List Oper} (m : Nat) (pl : List Plan) (hm : P.follows .mixedOrders = true) (hB : Region.lexTailB .any r.toArray m = true) (hst : storesB .any r.toArray = true)
    (h : X P r.toArray (TailQ P r.toArray Q (r.drop m)) n O w0 (fun i => pl.getD i (.inl undef)) (r.take m) 0 l [] L) : C P Q n O w0 (.region id r.toArray true) l L := fun a w hF hL => by
  have hx := h a w (fun _ => none) hF hL ⟨by simp, fun _ hb => by cases hb⟩
  simp only [Region.lexTailB, Bool.and_eq_true, decide_eq_true_eq] at hB
  obtain ⟨⟨⟨⟨hsel, hn⟩, hs⟩, hc⟩, hlex⟩ := hB
  have hn' : m < r.length := by simpa using hn
  have htl : (r.take m).length = m := by simp; omega
  have hdl : (r.drop m).length = r.toArray.size - m := by simp
  have inv0 : HeadInv .any r.toArray m (Array.replicate r.toArray.size false) :=
    ⟨by simp, fun j oj _ hl => (by rw [getD_replicate_false] at hl; cases hl), fun t _ ht => getD_in (by simpa using ht) (getD_replicate_false _ _)⟩
  have H := wpAnyLC_lex (P := P) (B := w.heap.size) (w0 := w) (pl := fun i => pl.getD i (.inl undef)) (md := .any) (g := r.toArray.size - m) hsel hst hs hc hn (r.take m) 0 _ a (fun _ => none) ⟨0, fun _ _ => rfl⟩ (fun j hj => by
    have hj' : j < m := by rw [htl] at hj; exact hj
    simp [hj']) (by simpa using htl) (fun j hj => by omega) inv0 (by rw [htl]; exact hlex) hx
  refine wp_region_any hm ?_
  have := wpAny_of_headC (P := P) (B := w.heap.size) (w0 := w) (Q' := Q) (g := r.toArray.size - m) (Nat.le_refl _) (fun listed a' E' w' hw' hL' => by
    have := wpAny_of_seq (md := .any) (Q' := Q) (r.drop m) m listed a' w' (fun j => by simp [List.getElem?_drop]) (by rw [hdl]; exact hL'.1) (hL'.2 w' hw')
    rwa [hdl] at this) _ _ _ _ { w with drawn := w.drawn + 1 } ⟨⟨rfl, rfl, rfl, Nat.le_refl _, fun _ _ => rfl⟩, fun _ _ _ h => by cases h⟩ H
  rw [htl, show m + (r.toArray.size - m) = r.toArray.size by omega] at this
  exact this
end Go.Proofs.Ytnafnhpajkhgkaa.Wk
/- A walk that is begun anew behind a call: what the callee has made is old memory then. No condition. -/
namespace Go.Proofs.Ytnafnhpajkhgkaa
set_option linter.unusedVariables false
set_option linter.unusedSimpArgs false
open Go.RowKit Mem Wk
namespace Wk
variable {P : Program} {n : Nat} {w0 w1 : World} {l : List (Nat × Value)} {L K : List (Nat × TypeId × Array Value)} {Q : Exit → Act → World → Prop} {ops : Array Oper} {o : Oper} {rest : List Oper} {d : Nat} {x : Operand} {v : Value} {O : List Nat}
/-- old blocks that are known -/
def Kw (w : World) (K : List (Nat × TypeId × Array Value)) : Prop := ∀ b ∈ K, w.heap[b.1]? = some (.cells b.2.2 b.2.1 (0, 0))
theorem Kw.nil (w : World) : Kw w [] := fun b hb => by cases hb
theorem Kw.base (hK : Kw w0 K) (hL : Kn [] w0 w1 L) : Kw w1 (L ++ K) := fun b hb => by
  rcases List.mem_append.1 hb with h | h
  · exact hL.has b h
  · exact Kn.old hL (hK b h) (by simp)
theorem Kw.at_ (hK : Kw w0 K) {g : Nat} {T : TypeId} {cs : Array Value} (hm : (g, T, cs) ∈ K) {w : World} (hL : Kn [] w0 w L) : w.heap[g]? = some (.cells cs T (0, 0)) := Kn.old hL (hK _ hm) (by simp)
end Wk
end Go.Proofs.Ytnafnhpajkhgkaa
/- Hurdles at the sides of cells: hurdleAt, stands, put; the reference's l01Closed and l01Set. No condition. -/
namespace Go.Proofs.Ytnafnhpajkhgkaa
set_option linter.unusedVariables false
set_option linter.unusedSimpArgs false
open Go.RowKit Mem Wk
attribute [local irreducible] Calls Wk.S Wk.C Wk.E Wk.X Wk.T Wk.anV Wk.orV Wk.andV Wk.shlV Wk.shrV Calm.wpLex
def hdX (x side : Int) : Int := if side = 0 then nextX x side else if side = 3 then nextX x side else x
def hdY (y side : Int) : Int := if side = 0 then nextY y side else if side = 3 then nextY y side else y
def hdS (side : Int) : Bool := decide (side = 0) || decide (side = 2)
set_option maxRecDepth 100000 in
set_option maxHeartbeats 400000 in
theorem hurdleAt_any (x y side : Int) (w : World) (hx : -127 ≤ x ∧ x ≤ 126) (hy : -127 ≤ y ∧ y ≤ 126) :
    Calls Try.prog 86 #[.agg #[.int .i8 x, .int .i8 y], .int .i64 side] w fun e w' => e = .returned (.agg #[.int .i8 (hdX x side), .int .i8 (hdY y side), .bool (hdS side)]) ∧ Below w.heap.size w w' := by
  refine enter2 Try.func86 rfl rfl rfl (Own.start w) ?_
  repeat' (first
    | (refine s_g ?_; first
      | (refine s_gd rfl ?_; first | refine s_gd1 rfl rfl zTr ?_ | refine s_gd0 rfl rfl rfl zTr ?_ | refine s_gd00 rfl rfl zTr ?_ | refine s_gp1 rfl rfl rfl (fun hc => ?_) (fun hc => ?_) | refine s_gp0 rfl rfl rfl (fun hc => ?_) (fun hc => ?_) | refine s_gnp1 rfl rfl rfl (fun hc => ?_) (fun hc => ?_) | refine s_gnp0 rfl rfl rfl (fun hc => ?_) (fun hc => ?_) | refine s_gb1 rfl rfl rfl (fun hc => ?_) (fun hc => ?_) | refine s_gb0 rfl rfl rfl (fun hc => ?_) (fun hc => ?_) | refine s_gnb1 rfl rfl rfl (fun hc => ?_) (fun hc => ?_) | refine s_gnb0 rfl rfl rfl (fun hc => ?_) (fun hc => ?_))
      | (refine s_k 0 rfl ?_; refine s_val rfl rfl rfl (r_move rfl rfl) ?_)
      | (refine s_k 8 rfl ?_; first | (refine' s_val rfl rfl rfl (r_ldv rfl rfl ?qm ?qv) ?_; (case qm => (exact zMm)); (case qv => (exact zLe))) | (refine' s_val rfl rfl rfl (r_ldo rfl rfl ?qw (by simp) ?qv) ?_; (case qw => assumption); (case qv => (exact zLe))))
      | (refine s_k 13 rfl ?_; refine s_val rfl rfl rfl (r_eql rfl rfl rfl) ?_)
      | (refine s_k 35 rfl ?_; (refine s_call Try.func79 (by kernel_rfl) rfl rfl rfl rfl rfl rfl (fun w hL => ahead_any _ _ _ _ hx hy) ?_))
      | (refine s_k 2 rfl ?_; first | refine s_val rfl rfl rfl (r_pick1 rfl rfl zTr rfl) ?_ | refine s_val rfl rfl rfl (r_pick0 rfl rfl zTr rfl) ?_)
      | (refine s_k 4 rfl ?_; first | refine s_boxA rfl rfl rfl rfl rfl fun blk => ?_ | refine s_box1 rfl rfl rfl rfl rfl rfl fun blk => ?_)
      | (refine s_k 9 rfl ?_; (first | refine s_st1 tb rfl rfl rfl rfl rfl rfl rfl rfl ?_ | refine s_stA tb rfl rfl rfl rfl (by first | rfl | assumption | (apply Pv.size; assumption)) rfl rfl ?_); (first | refine' st0 ?qs ?_ | refine' st1 ?qs ?_ | refine' st2 ?qs ?_ | refine' st3 ?qs ?_ | refine' st4 ?qs ?_ | refine' st5 ?qs ?_ | refine' st6 ?qs ?_ | refine' st7 ?qs ?_ | refine' st8 ?qs ?_ | refine' st9 ?qs ?_ | refine' st10 ?qs ?_ | refine' st11 ?qs ?_); (case qs => (first | exact zSet)))
      | (refine s_k 3 rfl ?_; refine s_allocA (t := 66) rfl zImplHurdle rfl rfl rfl fun blk => ?_)
      | (refine s_k 5 rfl ?_; refine s_val rfl rfl rfl (r_build rfl rfl (fun w => bHurdle _ _ _ rfl w)) ?_)
      | refine s_nil ?_)
    | (refine c_g ?_; first | refine c_seq ?_ | refine c_region ?_ | (refine c_gc ?_; first | refine c_cond1 rfl zTr ?_ | refine c_cond0 rfl zTr ?_ | refine z_condd1 rfl ?_ | refine z_condd0 rfl ?_ | refine z_conddn1 rfl ?_ | refine z_conddn0 rfl ?_ | refine c_condd rfl (fun hc => ?_) (fun hc => ?_) | refine c_conddn rfl (fun hc => ?_) (fun hc => ?_) | refine c_condn rfl (fun hc => ?_) (fun hc => ?_) | refine c_cond rfl (fun hc => ?_) (fun hc => ?_)) | refine c_block ?_ | refine c_skip ?_ | refine c_exit ?_ | refine c_ret ?_)
    | (refine e_g ?_; first | refine e_then ?_ | refine e_blkn ?_ | refine e_thenx ?_ | refine e_thenr ?_ | refine e_blkr ?_ | refine e_blkx ?_ | refine e_blky rfl ?_)
    | (refine e_ret1 (by simp) rfl (re_cell tb rfl m0 rfl rfl) fun w hL => ⟨?_, hL.toBelow⟩))
  all_goals (simp [hdX, hdY, hdS, *]; done)
def standB (p : Nat → Int) (x y : Int) (s : Bool) : Bool := if s then bitB (p (112 + y.toNat)) x else bitB (p (102 + y.toNat)) x
set_option maxRecDepth 100000 in
set_option maxHeartbeats 400000 in
theorem stands_any (p : Nat → Int) (cs : Array Value) (x y : Int) (s : Bool) (w : World) (hp : Pv p cs) (hx : 0 ≤ x ∧ x < 10) (hy : 0 ≤ y ∧ y < 10) :
    Calls Try.prog 66 #[.agg cs, .agg #[.int .i8 x, .int .i8 y, .bool s]] w fun e w' => e = .returned (.bool (standB p x y s)) ∧ Below w.heap.size w w' := by
  refine enter2 Try.func66 rfl rfl rfl (Own.start w) ?_
  repeat' (first
    | (refine s_g ?_; first
      | (refine s_k 23 rfl ?_; first | refine s_val rfl rfl rfl (r_field tb rfl rfl rfl) ?_ | refine s_val rfl rfl rfl (r_fieldS tb rfl rfl rfl) ?_)
      | (refine s_k 8 rfl ?_; first | (refine' s_val rfl rfl rfl (r_ldv rfl rfl ?qm ?qv) ?_; (case qm => (exact zMm)); (case qv => (first | exact ldvL tb rfl rfl | exact ldv1 tb rfl (by assumption) | exact ldv1 tb rfl (hp.eastA (by omega) (by omega)) | exact ldv1 tb rfl (hp.southA (by omega) (by omega)) | exact zLd))) | (refine' s_val rfl rfl rfl (r_ldo rfl rfl ?qw (by simp) ?qv) ?_; (case qw => assumption); (case qv => (first | exact ldvL tb rfl rfl | exact ldv1 tb rfl (by assumption) | exact ldv1 tb rfl (hp.eastA (by omega) (by omega)) | exact ldv1 tb rfl (hp.southA (by omega) (by omega)) | exact zLd))))
      | (refine s_k 1 rfl ?_; refine s_val rfl rfl rfl (r_assign rfl rfl) ?_)
      | (refine s_k 13 rfl ?_; first | refine s_val rfl rfl rfl (r_eql rfl rfl rfl) ?_ | refine s_val rfl rfl rfl (r_and rfl rfl rfl) ?_ | refine s_val rfl rfl rfl (r_shr rfl rfl rfl (by omega)) ?_)
      | (refine s_k 25 rfl ?_; first | refine s_val rfl rfl rfl (r_ixN tb rfl rfl rfl rfl (by omega)) ?_ | refine s_val rfl rfl rfl (r_ixA tb rfl rfl rfl rfl (by omega) (by omega)) ?_ | refine s_val rfl rfl rfl (r_ixO tb rfl rfl rfl rfl (by omega)) ?_)
      | (refine s_k 4 rfl ?_; first | refine s_boxA rfl rfl rfl rfl rfl fun blk => ?_ | refine s_box1 rfl rfl rfl rfl rfl rfl fun blk => ?_)
      | refine s_nil ?_)
    | (refine c_g ?_; first | refine c_seq ?_ | refine c_region ?_ | (refine c_gc ?_; first | refine c_cond1 rfl zTr ?_ | refine c_cond0 rfl zTr ?_ | refine z_condd1 rfl ?_ | refine z_condd0 rfl ?_ | refine z_conddn1 rfl ?_ | refine z_conddn0 rfl ?_ | refine c_condd rfl (fun hc => ?_) (fun hc => ?_) | refine c_conddn rfl (fun hc => ?_) (fun hc => ?_) | refine c_condn rfl (fun hc => ?_) (fun hc => ?_) | refine c_cond rfl (fun hc => ?_) (fun hc => ?_)) | refine c_block ?_ | refine c_skip ?_ | refine c_exit ?_ | refine c_ret ?_)
    | (refine e_g ?_; first | refine e_then ?_ | refine e_blkn ?_ | refine e_thenx ?_ | refine e_thenr ?_ | refine e_blkr ?_ | refine e_blkx ?_ | refine e_blky rfl ?_)
    | (refine x_g ?_; first
      | (refine x_k 23 rfl ?_; first | (refine x_val rfl rfl rfl (r_field tb rfl rfl rfl) ?hp ?_; (case hp => exact rfl)) | (refine x_val rfl rfl rfl (r_fieldS tb rfl rfl rfl) ?hp ?_; (case hp => exact rfl)))
      | (refine x_k 8 rfl ?_; first | (refine' x_val rfl rfl rfl (r_ldv rfl rfl ?qm ?qv) ?hp ?_; (case qm => (exact zMm)); (case qv => (first | exact ldvL tb rfl rfl | exact ldv1 tb rfl (by assumption) | exact ldv1 tb rfl (hp.eastA (by omega) (by omega)) | exact ldv1 tb rfl (hp.southA (by omega) (by omega)) | exact zLd)); (case hp => exact rfl)) | (refine' x_val rfl rfl rfl (r_ldo rfl rfl ?qw (by simp) ?qv) ?hp ?_; (case qw => assumption); (case qv => (first | exact ldvL tb rfl rfl | exact ldv1 tb rfl (by assumption) | exact ldv1 tb rfl (hp.eastA (by omega) (by omega)) | exact ldv1 tb rfl (hp.southA (by omega) (by omega)) | exact zLd)); (case hp => exact rfl)))
      | (refine x_k 1 rfl ?_; (refine x_val rfl rfl rfl (r_assign rfl rfl) ?hp ?_; (case hp => exact rfl)))
      | (refine x_k 13 rfl ?_; first | (refine x_val rfl rfl rfl (r_eql rfl rfl rfl) ?hp ?_; (case hp => exact rfl)) | (refine x_val rfl rfl rfl (r_and rfl rfl rfl) ?hp ?_; (case hp => exact rfl)) | (refine x_val rfl rfl rfl (r_shr rfl rfl rfl (by omega)) ?hp ?_; (case hp => exact rfl)))
      | (refine x_k 25 rfl ?_; first | (refine x_val rfl rfl rfl (r_ixN tb rfl rfl rfl rfl (by omega)) ?hp ?_; (case hp => exact rfl)) | (refine x_val rfl rfl rfl (r_ixA tb rfl rfl rfl rfl (by omega) (by omega)) ?hp ?_; (case hp => exact rfl)) | (refine x_val rfl rfl rfl (r_ixO tb rfl rfl rfl rfl (by omega)) ?hp ?_; (case hp => exact rfl)))
      | (refine x_k 4 rfl ?_; (refine x_boxA rfl rfl rfl rfl rfl ?hp (fun blk => ?_); (case hp => exact rfl)))
      | refine x_nil0 ?_
      | refine x_nil ?_)
    | (refine' c_drawX (id := 2) [(Sum.inl _ : Calm.Plan), (Sum.inl _ : Calm.Plan), (Sum.inl _ : Calm.Plan), (Sum.inl _ : Calm.Plan), (Sum.inl _ : Calm.Plan), (Sum.inl _ : Calm.Plan), (Sum.inl _ : Calm.Plan), (Sum.inl _ : Calm.Plan), (Sum.inl _ : Calm.Plan), (Sum.inl _ : Calm.Plan), (Sum.inl _ : Calm.Plan), (Sum.inl _ : Calm.Plan), (Sum.inl _ : Calm.Plan)] (by kernel_rfl) (by kernel_rfl) (by kernel_rfl) ?_)
    | (refine' c_drawX (id := 3) [(Sum.inl _ : Calm.Plan), (Sum.inl _ : Calm.Plan), (Sum.inl _ : Calm.Plan), (Sum.inl _ : Calm.Plan), (Sum.inl _ : Calm.Plan), (Sum.inl _ : Calm.Plan), (Sum.inl _ : Calm.Plan), (Sum.inl _ : Calm.Plan), (Sum.inl _ : Calm.Plan), (Sum.inl _ : Calm.Plan), (Sum.inl _ : Calm.Plan), (Sum.inl _ : Calm.Plan), (Sum.inl _ : Calm.Plan)] (by kernel_rfl) (by kernel_rfl) (by kernel_rfl) ?_)
    | (refine e_ret1 (by simp) rfl (re_tmp rfl) fun w hL => ⟨?_, hL.toBelow⟩))
  all_goals (simp [standB, bitB, *]; done)
def putP (p : Nat → Int) (x y : Int) (s on : Bool) : Nat → Int := if s then upd p (112 + y.toNat) (rowV (p (112 + y.toNat)) x on) else upd p (102 + y.toNat) (rowV (p (102 + y.toNat)) x on)
set_option maxRecDepth 100000 in
set_option maxHeartbeats 400000 in
theorem put_any (p : Nat → Int) (cs : Array Value) (g : Nat) (x y : Int) (s on : Bool) (w : World) (hp : Pv p cs) (hg : w.heap[g]? = some (.cells cs 32 (0, 0))) (hx : 0 ≤ x ∧ x < 10) (hy : 0 ≤ y ∧ y < 10) :
    Calls Try.prog 69 #[.pointer (some ⟨g, 0, none⟩), .agg #[.int .i8 x, .int .i8 y, .bool s], .bool on] w fun e w' => e = .returned (.tuple #[]) ∧ ∃ cs', Pv (putP p x y s on) cs' ∧ Upd w w' g 32 cs' := by
  have hsz := hp.size
  refine enter3 Try.func69 rfl rfl rfl (Own.startAt w hg) ?_
  repeat' (first
    | (refine s_g ?_; first
      | (refine s_k 0 rfl ?_; refine s_val rfl rfl rfl (r_move rfl rfl) ?_)
      | (refine s_k 23 rfl ?_; first | refine s_val rfl rfl rfl (r_field tb rfl rfl rfl) ?_ | refine s_val rfl rfl rfl (r_fieldS tb rfl rfl rfl) ?_)
      | (refine s_k 8 rfl ?_; first | (refine' s_val rfl rfl rfl (r_ldv rfl rfl ?qm ?qv) ?_; (case qm => (exact zMm)); (case qv => (first | exact ldvL tb rfl rfl | exact ldv1 tb rfl (by assumption) | exact ldv1 tb rfl (hp.eastA (by omega) (by omega)) | exact ldv1 tb rfl (hp.southA (by omega) (by omega)) | exact zLd))) | (refine' s_val rfl rfl rfl (r_ldo rfl rfl ?qw (by simp) ?qv) ?_; (case qw => assumption); (case qv => (first | exact ldvL tb rfl rfl | exact ldv1 tb rfl (by assumption) | exact ldv1 tb rfl (hp.eastA (by omega) (by omega)) | exact ldv1 tb rfl (hp.southA (by omega) (by omega)) | exact zLd))))
      | (refine s_k 1 rfl ?_; refine s_val rfl rfl rfl (r_assign rfl rfl) ?_)
      | (refine s_k 13 rfl ?_; first | refine s_val rfl rfl rfl (r_or rfl rfl rfl) ?_ | refine s_val rfl rfl rfl (r_an rfl rfl rfl) ?_ | refine s_val rfl rfl rfl (r_shl rfl rfl rfl (by omega)) ?_)
      | (refine s_k 25 rfl ?_; first | refine s_val rfl rfl rfl (r_ixN tb rfl rfl rfl rfl (by omega)) ?_ | refine s_val rfl rfl rfl (r_ixA tb rfl rfl rfl rfl (by omega) (by omega)) ?_ | refine s_val rfl rfl rfl (r_ixO tb rfl rfl rfl rfl (by omega)) ?_)
      | (refine s_k 4 rfl ?_; first | refine s_boxA rfl rfl rfl rfl rfl fun blk => ?_ | refine s_box1 rfl rfl rfl rfl rfl rfl fun blk => ?_)
      | (refine s_k 9 rfl ?_; (first | refine s_st1 tb rfl rfl rfl rfl rfl rfl rfl rfl ?_ | refine s_stA tb rfl rfl rfl rfl (by first | rfl | assumption | (apply Pv.size; assumption)) rfl rfl ?_); (first | refine' st0 ?qs ?_ | refine' st1 ?qs ?_ | refine' st2 ?qs ?_ | refine' st3 ?qs ?_ | refine' st4 ?qs ?_ | refine' st5 ?qs ?_ | refine' st6 ?qs ?_ | refine' st7 ?qs ?_ | refine' st8 ?qs ?_ | refine' st9 ?qs ?_ | refine' st10 ?qs ?_ | refine' st11 ?qs ?_); (case qs => (first | exact set_one (by have := hp.size; omega) rfl | exact zSet)); (first | (refine absP1 (Pv.setRow (by assumption) (by omega) (by omega) (anV_range _ _)) fun cs hp => ?_) | (refine absP1 (Pv.setRow (by assumption) (by omega) (by omega) (orV_range _ _)) fun cs hp => ?_) | skip))
      | (refine s_k 12 rfl ?_; refine s_val rfl rfl rfl (r_nil rfl rfl) ?_)
      | refine s_nil ?_)
    | (refine c_g ?_; first | refine c_seq ?_ | refine c_region ?_ | (refine c_gc ?_; first | refine c_cond1 rfl zTr ?_ | refine c_cond0 rfl zTr ?_ | refine z_condd1 rfl ?_ | refine z_condd0 rfl ?_ | refine z_conddn1 rfl ?_ | refine z_conddn0 rfl ?_ | refine c_condd rfl (fun hc => ?_) (fun hc => ?_) | refine c_conddn rfl (fun hc => ?_) (fun hc => ?_) | refine c_condn rfl (fun hc => ?_) (fun hc => ?_) | refine c_cond rfl (fun hc => ?_) (fun hc => ?_)) | refine c_block ?_ | refine c_skip ?_ | refine c_exit ?_ | refine c_ret ?_)
    | (refine e_g ?_; first | refine e_then ?_ | refine e_blkn ?_ | refine e_thenx ?_ | refine e_thenr ?_ | refine e_blkr ?_ | refine e_blkx ?_ | refine e_blky rfl ?_)
    | (refine t_g ?_; first
      | (refine t_k 0 rfl ?_; refine t_val rfl rfl rfl (r_move rfl rfl) ?_)
      | (refine t_k 23 rfl ?_; first | refine t_val rfl rfl rfl (r_field tb rfl rfl rfl) ?_ | refine t_val rfl rfl rfl (r_fieldS tb rfl rfl rfl) ?_)
      | (refine t_k 8 rfl ?_; first | (refine' t_val rfl rfl rfl (r_ldv rfl rfl ?qm ?qv) ?_; (case qm => (exact zMm)); (case qv => (first | exact ldvL tb rfl rfl | exact ldv1 tb rfl (by assumption) | exact ldv1 tb rfl (hp.eastA (by omega) (by omega)) | exact ldv1 tb rfl (hp.southA (by omega) (by omega)) | exact zLd))) | (refine' t_val rfl rfl rfl (r_ldo rfl rfl ?qw (by simp) ?qv) ?_; (case qw => assumption); (case qv => (first | exact ldvL tb rfl rfl | exact ldv1 tb rfl (by assumption) | exact ldv1 tb rfl (hp.eastA (by omega) (by omega)) | exact ldv1 tb rfl (hp.southA (by omega) (by omega)) | exact zLd))))
      | (refine t_k 1 rfl ?_; refine t_val rfl rfl rfl (r_assign rfl rfl) ?_)
      | (refine t_k 13 rfl ?_; first | refine t_val rfl rfl rfl (r_or rfl rfl rfl) ?_ | refine t_val rfl rfl rfl (r_an rfl rfl rfl) ?_ | refine t_val rfl rfl rfl (r_shl rfl rfl rfl (by omega)) ?_)
      | (refine t_k 25 rfl ?_; first | refine t_val rfl rfl rfl (r_ixN tb rfl rfl rfl rfl (by omega)) ?_ | refine t_val rfl rfl rfl (r_ixA tb rfl rfl rfl rfl (by omega) (by omega)) ?_ | refine t_val rfl rfl rfl (r_ixO tb rfl rfl rfl rfl (by omega)) ?_)
      | (refine t_k 12 rfl ?_; refine t_val rfl rfl rfl (r_nil rfl rfl) ?_)
      | refine t_nil ?_)
    | refine c_drawT (id := 4) 14 (by kernel_rfl) (by kernel_rfl) ?_
    | refine c_drawT (id := 6) 14 (by kernel_rfl) (by kernel_rfl) ?_
    | (refine' e_ret0 (by simp) rfl (fun w hL => ⟨rfl, _, ?_, Upd.of hL m1⟩)))
  all_goals (simp [putP, rowV, upd_upd, upd_at, *] at hp ⊢; first | exact hp | skip)

end Go.Proofs.Ytnafnhpajkhgkaa
