import Derived.Test.YtnafnhpajkhgkaaQW02
import Derived.Test.YtnafnhpajkhgkaaQW03
import Derived.Test.YtnafnhpajkhgkaaQW04
import Derived.Test.YtnafnhpajkhgkaaQW08
/- Pastures that are written: one cell after another; loads of rows and grass; blocks that a callee has written. No condition. -/
namespace Go.Proofs.Ytnafnhpajkhgkaa
set_option linter.unusedVariables false
set_option linter.unusedSimpArgs false
open Go.RowKit Mem Wk

def upd (p : Nat → Int) (i : Nat) (v : Int) : Nat → Int := fun j => if j = i then v else p j
theorem upd_at (p : Nat → Int) (i : Nat) (v : Int) : upd p i v i = v := by simp [upd]
theorem upd_ne (p : Nat → Int) {i j : Nat} (v : Int) (h : j ≠ i) : upd p i v j = p j := by simp [upd, h]
theorem upd_upd (p : Nat → Int) (i : Nat) (v u : Int) : upd (upd p i v) i u = upd p i u := by funext j; simp only [upd]; split <;> rfl
theorem Pv.setRow {p : Nat → Int} {cs : Array Value} {i : Nat} {v : Int} (hp : Pv p cs) (h1 : 102 ≤ i) (h2 : i < 122) (h3 : 0 ≤ v ∧ v ≤ 65535) : Pv (upd p i v) (cs.setIfInBounds i (.int .u16 v)) := by
  refine ⟨by simp [hp.size], fun j hj => ?_, fun j hj => by rw [upd_ne _ _ (by omega)]; exact hp.i8 j hj, fun j h h' => by rw [upd_ne _ _ (by omega)]; exact hp.i16 j h h', fun j h h' => ?_⟩
  · by_cases e : j = i
    · subst e
      have : pk j = .u16 := by unfold pk; rw [if_neg (by omega), if_neg (by omega)]
      rw [this, upd_at]; simp [hp.size, h2]
    · rw [upd_ne _ _ e, Array.getElem?_setIfInBounds_ne (by omega)]; exact hp.get j hj
  · by_cases e : j = i
    · subst e; rw [upd_at]; exact h3
    · rw [upd_ne _ _ e]; exact hp.u16 j h h'
/-! loads at the places that a walk spells -/
theorem Pv.eastA {p : Nat → Int} {cs : Array Value} {y : Int} (hp : Pv p cs) (h0 : 0 ≤ y) (h1 : y < 10) : cs[0 + 102 + y.toNat * 1]? = some (.int .u16 (p (102 + y.toNat))) := by
  rw [show 0 + 102 + y.toNat * 1 = 102 + y.toNat by omega]; exact hp.side _ (by omega) (by omega)
theorem Pv.southA {p : Nat → Int} {cs : Array Value} {y : Int} (hp : Pv p cs) (h0 : 0 ≤ y) (h1 : y < 10) : cs[0 + 112 + y.toNat * 1]? = some (.int .u16 (p (112 + y.toNat))) := by
  rw [show 0 + 112 + y.toNat * 1 = 112 + y.toNat by omega]; exact hp.side _ (by omega) (by omega)
/-! bits of rows -/
def bitB (v x : Int) : Bool := decide (andV .u16 (shrV .u16 v x) 1 = 1)
def rowV (v x : Int) (on : Bool) : Int := if on then orV .u16 (anV .u16 v (shlV .u16 1 x)) (shlV .u16 1 x) else anV .u16 v (shlV .u16 1 x)
theorem u16_range (m : Int) : 0 ≤ IntKind.u16.wrap m ∧ IntKind.u16.wrap m ≤ 65535 := by
  simp [IntKind.wrap, IntKind.bits, IntKind.signed]; omega
theorem anV_range (a b : Int) : 0 ≤ anV .u16 a b ∧ anV .u16 a b ≤ 65535 := u16_range _
theorem orV_range (a b : Int) : 0 ≤ orV .u16 a b ∧ orV .u16 a b ≤ 65535 := u16_range _
theorem rowV_range (v x : Int) (on : Bool) : 0 ≤ rowV v x on ∧ rowV v x on ≤ 65535 := by unfold rowV; split; exact orV_range _ _; exact anV_range _ _
/-! a block that a callee has written -/
structure Upd (w w' : World) (g : Nat) (T : TypeId) (cs' : Array Value) : Prop where
  os : w'.os = w.os
  tape : w'.tape = w.tape
  output : w'.output = w.output
  size : w.heap.size ≤ w'.heap.size
  keep : ∀ k, k < w.heap.size → k ≠ g → w'.heap[k]? = w.heap[k]?
  has : w'.heap[g]? = some (.cells cs' T (0, 0))
theorem Upd.of {w0 w : World} {g : Nat} {T : TypeId} {cs' : Array Value} {L : List (Nat × TypeId × Array Value)} (h : Kn [g] w0 w L) (hm : (g, T, cs') ∈ L) : Upd w0 w g T cs' :=
  ⟨h.os, h.tape, h.output, h.size, fun k hk hne => Own.others h k hk hne, h.has _ hm⟩
theorem Kn.upd {O : List Nat} {w0 w w' : World} {L : List (Nat × TypeId × Array Value)} {i g : Nat} {T : TypeId} {cs cs' : Array Value} (h : Kn O w0 w L) (hi : L[i]? = some (g, T, cs)) (hu : Upd w w' g T cs') : Kn O w0 w' (L.set i (g, T, cs')) := by
  have h1 := h.put (cs' := cs') hi
  have hlt : ∀ x ∈ L, x.1 < w.heap.size := fun x hx => (Array.getElem?_eq_some_iff.1 (h.has x hx)).1
  have hgm : (g, T, cs) ∈ L := List.mem_of_getElem? hi
  have hsame : ∀ k, k < w.heap.size → w'.heap[k]? = (w.setRow g cs').heap[k]? := fun k hk => by
    by_cases e : k = g
    · subst e; rw [hu.has, setRow_heap w k cs cs' T (0, 0) (h.has _ hgm)]
    · rw [hu.keep k hk e, setRow_other w g k cs' e]
  have hmem : ∀ x ∈ L.set i (g, T, cs'), x.1 < w.heap.size := fun x hx => by
    have := (Array.getElem?_eq_some_iff.1 (h1.has x hx)).1
    simpa using this
  refine ⟨hu.os.trans h.os, hu.tape.trans h.tape, hu.output.trans h.output, Nat.le_trans h.size hu.size, h.base, fun k hk hx => ?_, h1.low, fun x hx => ?_, h1.nodup⟩
  · have hk' : k < w.heap.size := by have := h.size; omega
    rw [hsame k hk']; exact h1.keep k hk hx
  · rw [hsame x.1 (hmem x hx)]; exact h1.has x hx
theorem s_callM0 {P : Program} {ops : Array Oper} {Q : Exit → Act → World → Prop} {n : Nat} {O : List Nat} {w0 : World} {o : Oper} {rest : List Oper} {l : List (Nat × Value)} {L : List (Nat × TypeId × Array Value)} {g : Nat} {T : TypeId} {cs : Array Value} {f : FuncId} {fn : Func} {xs : Array Operand} {ts : Array TypeId} {vs : List Value} {d : Nat} {v : Value} {Pf : Array Value → Prop} (hf : P.funcs[f]? = some fn) (hname : (fn.name == "runtime.NumGoroutine") = false) (hb : fn.body.isSome = true) (hg : o.guard = none) (hd : o.dst = some d) (hn : Nat.blt d n = true) (hop : o.op = .call { callee := .value (.func f), args := xs, argTypes := ts }) (hargs : evs l xs.toList = some vs) (hc : ∀ w, Kn O w0 w ((g, T, cs) :: L) → w.heap[g]? = some (.cells cs T (0, 0)) → Calls P f vs.toArray w fun e w' => e = .returned v ∧ ∃ cs', Pf cs' ∧ Upd w w' g T cs') (h : ∀ cs', Pf cs' → S P ops Q n O w0 rest ((d, v) :: l) ((g, T, cs') :: L)) : S P ops Q n O w0 (o :: rest) l ((g, T, cs) :: L) := s_callR (ι := Array Value) Pf (fun _ => v) (fun c => (g, T, c) :: L) hf hname hb hg hd hn hop hargs (fun w hL => (hc w hL (hL.at_ m0)).mono fun e w' ⟨he, cs', hP, hu⟩ => ⟨cs', hP, he, Kn.upd (i := 0) hL rfl hu⟩) h
theorem s_callM2 {P : Program} {ops : Array Oper} {Q : Exit → Act → World → Prop} {n : Nat} {O : List Nat} {w0 : World} {o : Oper} {rest : List Oper} {l : List (Nat × Value)} {L : List (Nat × TypeId × Array Value)} {b0 b1 : Nat × TypeId × Array Value} {g : Nat} {T : TypeId} {cs : Array Value} {f : FuncId} {fn : Func} {xs : Array Operand} {ts : Array TypeId} {vs : List Value} {d : Nat} {v : Value} {Pf : Array Value → Prop} (hf : P.funcs[f]? = some fn) (hname : (fn.name == "runtime.NumGoroutine") = false) (hb : fn.body.isSome = true) (hg : o.guard = none) (hd : o.dst = some d) (hn : Nat.blt d n = true) (hop : o.op = .call { callee := .value (.func f), args := xs, argTypes := ts }) (hargs : evs l xs.toList = some vs) (hc : ∀ w, Kn O w0 w (b0 :: b1 :: (g, T, cs) :: L) → w.heap[g]? = some (.cells cs T (0, 0)) → Calls P f vs.toArray w fun e w' => e = .returned v ∧ ∃ cs', Pf cs' ∧ Upd w w' g T cs') (h : ∀ cs', Pf cs' → S P ops Q n O w0 rest ((d, v) :: l) (b0 :: b1 :: (g, T, cs') :: L)) : S P ops Q n O w0 (o :: rest) l (b0 :: b1 :: (g, T, cs) :: L) := s_callR (ι := Array Value) Pf (fun _ => v) (fun c => b0 :: b1 :: (g, T, c) :: L) hf hname hb hg hd hn hop hargs (fun w hL => (hc w hL (hL.at_ m2)).mono fun e w' ⟨he, cs', hP, hu⟩ => ⟨cs', hP, he, Kn.upd (i := 2) hL rfl hu⟩) h
theorem s_callM3 {P : Program} {ops : Array Oper} {Q : Exit → Act → World → Prop} {n : Nat} {O : List Nat} {w0 : World} {o : Oper} {rest : List Oper} {l : List (Nat × Value)} {L : List (Nat × TypeId × Array Value)} {b0 b1 b2 : Nat × TypeId × Array Value} {g : Nat} {T : TypeId} {cs : Array Value} {f : FuncId} {fn : Func} {xs : Array Operand} {ts : Array TypeId} {vs : List Value} {d : Nat} {v : Value} {Pf : Array Value → Prop} (hf : P.funcs[f]? = some fn) (hname : (fn.name == "runtime.NumGoroutine") = false) (hb : fn.body.isSome = true) (hg : o.guard = none) (hd : o.dst = some d) (hn : Nat.blt d n = true) (hop : o.op = .call { callee := .value (.func f), args := xs, argTypes := ts }) (hargs : evs l xs.toList = some vs) (hc : ∀ w, Kn O w0 w (b0 :: b1 :: b2 :: (g, T, cs) :: L) → w.heap[g]? = some (.cells cs T (0, 0)) → Calls P f vs.toArray w fun e w' => e = .returned v ∧ ∃ cs', Pf cs' ∧ Upd w w' g T cs') (h : ∀ cs', Pf cs' → S P ops Q n O w0 rest ((d, v) :: l) (b0 :: b1 :: b2 :: (g, T, cs') :: L)) : S P ops Q n O w0 (o :: rest) l (b0 :: b1 :: b2 :: (g, T, cs) :: L) := s_callR (ι := Array Value) Pf (fun _ => v) (fun c => b0 :: b1 :: b2 :: (g, T, c) :: L) hf hname hb hg hd hn hop hargs (fun w hL => (hc w hL (hL.at_ m3)).mono fun e w' ⟨he, cs', hP, hu⟩ => ⟨cs', hP, he, Kn.upd (i := 3) hL rfl hu⟩) h
theorem s_callM4 {P : Program} {ops : Array Oper} {Q : Exit → Act → World → Prop} {n : Nat} {O : List Nat} {w0 : World} {o : Oper} {rest : List Oper} {l : List (Nat × Value)} {L : List (Nat × TypeId × Array Value)} {b0 b1 b2 b3 : Nat × TypeId × Array Value} {g : Nat} {T : TypeId} {cs : Array Value} {f : FuncId} {fn : Func} {xs : Array Operand} {ts : Array TypeId} {vs : List Value} {d : Nat} {v : Value} {Pf : Array Value → Prop} (hf : P.funcs[f]? = some fn) (hname : (fn.name == "runtime.NumGoroutine") = false) (hb : fn.body.isSome = true) (hg : o.guard = none) (hd : o.dst = some d) (hn : Nat.blt d n = true) (hop : o.op = .call { callee := .value (.func f), args := xs, argTypes := ts }) (hargs : evs l xs.toList = some vs) (hc : ∀ w, Kn O w0 w (b0 :: b1 :: b2 :: b3 :: (g, T, cs) :: L) → w.heap[g]? = some (.cells cs T (0, 0)) → Calls P f vs.toArray w fun e w' => e = .returned v ∧ ∃ cs', Pf cs' ∧ Upd w w' g T cs') (h : ∀ cs', Pf cs' → S P ops Q n O w0 rest ((d, v) :: l) (b0 :: b1 :: b2 :: b3 :: (g, T, cs') :: L)) : S P ops Q n O w0 (o :: rest) l (b0 :: b1 :: b2 :: b3 :: (g, T, cs) :: L) := s_callR (ι := Array Value) Pf (fun _ => v) (fun c => b0 :: b1 :: b2 :: b3 :: (g, T, c) :: L) hf hname hb hg hd hn hop hargs (fun w hL => (hc w hL (hL.at_ m4)).mono fun e w' ⟨he, cs', hP, hu⟩ => ⟨cs', hP, he, Kn.upd (i := 4) hL rfl hu⟩) h
theorem setP {p : Nat → Int} {c cs : Array Value} (h : Pv p cs) (h8 : c.size = 122) : Wk.Set c 0 cs cs := set_whole (by rw [h.size, h8]) h.one
theorem absP1 {P : Program} {ops : Array Oper} {Q : Exit → Act → World → Prop} {n : Nat} {O : List Nat} {w0 : World} {rest : List Oper} {l : List (Nat × Value)} {L : List (Nat × TypeId × Array Value)} {b0 : Nat × TypeId × Array Value} {g : Nat} {T : TypeId} {p' : Nat → Int} {cs : Array Value} (hp : Pv p' cs) (h : ∀ cs', Pv p' cs' → S P ops Q n O w0 rest l (b0 :: (g, T, cs') :: L)) : S P ops Q n O w0 rest l (b0 :: (g, T, cs) :: L) := h cs hp
/-! what a type's zero is, what a struct's parts make -/
theorem zImplSpot : (Try.prog.info? 52).map (·.zero) = some (some (.agg #[.int .i8 0, .int .i8 0])) := by kernel_rfl
theorem zImplHurdle : (Try.prog.info? 66).map (·.zero) = some (some (.agg #[.int .i8 0, .int .i8 0, .bool false])) := by kernel_rfl
theorem zImplPas : (Try.prog.info? 32).map (·.zero) = some (some (.agg zP)) := by kernel_rfl
theorem bHurdle (a b c : Value) (hc : c.oneCell' = true) (w : World) : (Instr.build 66 #[(0, .agg #[a, b]), (1, c)]).run Try.prog w = .ok (.agg #[a, b, c]) w := by
  cases c <;> first | (simp [Value.oneCell'] at hc; done) | kernel_rfl
theorem zSet {cs vs cs' : Array Value} {off : Nat} (h : Wk.Set cs off vs cs' := by (first | exact setP zP_pv rfl | exact setP (by assumption) rfl | exact setP (by assumption) (Pv.size (by assumption)) | exact set_whole rfl (by simp [Value.oneCell', Hd.cells, Sp.cells, Sk.cells, Gt.cells]) | exact setl0 rfl | exact setl1 rfl | exact setl2 rfl | exact setl3 rfl | exact setl4 rfl | exact setl5 rfl | exact setl6 rfl | exact setl7 rfl | exact set2_0 rfl rfl | exact set2_2 rfl rfl)) : Wk.Set cs off vs cs' := h
theorem zLd {ty : TypeId} {off : Nat} {cs : Array Value} {v : Value} (h : Ldv Try.prog ty cs off v := by (first | exact ldvW tb rfl rfl | exact ldvW tb rfl (by assumption) | exact ldvW tb rfl (Pv.size (by assumption)) | exact ldvN tb rfl ext2_0 rfl | exact ldvN tb rfl ext2_2 rfl)) : Ldv Try.prog ty cs off v := h
theorem zLe {ty : TypeId} {off : Nat} {cs : Array Value} {v : Value} (h : Ldv Try.prog ty cs off v := by (first | exact ldvL tb rfl rfl | exact ldv1 tb rfl (by assumption) | exact ldvW tb rfl rfl | exact ldvW tb rfl (by assumption) | exact ldvW tb rfl (Pv.size (by assumption)) | exact ldvN tb rfl ext2_0 rfl | exact ldvN tb rfl ext2_2 rfl)) : Ldv Try.prog ty cs off v := h
end Go.Proofs.Ytnafnhpajkhgkaa
/- A region that draws its order: calm operations, and behind all of them a tail in order, which may write. Plain theorems; no condition. -/
namespace Go.Proofs.Ytnafnhpajkhgkaa.Wk
set_option linter.unusedVariables false
set_option linter.unusedSimpArgs false
open Go Go.RowKit Mem Calm
section
variable {P : Program} {ops : Array Oper} {md : Region.Mode} {B : Nat} {w0 : World} {pl : Nat → Plan}
def wpAnyLC (P : Program) (md : Region.Mode) (ops : Array Oper) (B : Nat) (w0 : World) (pl : Nat → Plan) (n : Nat) (Lq : Array Bool → Act → Made → Prop) : Nat → Array Bool → Act → Made → Prop
  | 0, listed, a, E => Lq listed a E
  | f + 1, listed, a, E => Region.ready md ops listed ≠ [] ∧ ∀ i ∈ Region.ready md ops listed, i < n ∧ cOp P ops B w0 pl i (wpAnyLC P md ops B w0 pl n Lq f (listed.setIfInBounds i true)) a E
theorem wpAny_of_headC {n g : Nat} {Lq : Array Bool → Act → Made → Prop} {Q' : Exit → Act → World → Prop} (hB : B ≤ w0.heap.size) (hL : ∀ listed a E w, Holds B w0 E w → Lq listed a E → wpAny P md ops Q' g listed a w) :
    ∀ (f : Nat) (listed : Array Bool) (a : Act) (E : Made) (w : World), Holds B w0 E w → wpAnyLC P md ops B w0 pl n Lq f listed a E → wpAny P md ops Q' (f + g) listed a w
  | 0, listed, a, E, w, hw, h => by rw [Nat.zero_add]; exact hL _ _ _ _ hw h
  | f + 1, listed, a, E, w, hw, h => by
    rw [show f + 1 + g = (f + g) + 1 by omega]
    exact ⟨fun h0 => absurd h0 h.1, fun i hi => wpOp_of_cOp hB hw (fun a' E' w' hw' h' => wpAny_of_headC hB hL f _ a' E' w' hw' h') (h.2 i hi).2⟩
theorem cOp_no {i : Nat} {oi : Oper} (hi : ops[i]? = some oi) (a : Act) (E : Made) (hE : Bounded E) : ¬ cOp P ops B w0 pl i (fun _ _ => False) a E := by
  intro h
  unfold cOp at h
  simp only [hi] at h
  split at h
  · generalize pl i = p at h
    match p with
    | .inl v => exact h.2
    | .inr (false, T, cs) => obtain ⟨g, g1, g2, _⟩ := hE.fresh B 0; exact h.2 g g1 g2
    | .inr (true, T, cs) => obtain ⟨_, _, _, _, _, _, _, _, _, _, h⟩ := h; exact h
  · exact h
theorem wpAnyLC_first {n i : Nat} {oi : Oper} {Lq : Array Bool → Act → Made → Prop} (hi : ops[i]? = some oi) (hsel : ∀ (j : Nat) (o : Oper) cs b, ops[j]? = some o → o.op ≠ .select cs b)
    (hs : Region.sinkB md ops n = true) (hc : Region.chainB md ops n = true) (hn : n < ops.size) (hin : i < n) (hdone : ∀ listed a E, Lq listed a E → ∀ j ∈ Region.ready md ops listed, n ≤ j) :
    ∀ (f : Nat) (listed : Array Bool) (a : Act) (E : Made), Bounded E → HeadInv md ops n listed →
      (∀ j oj, ops[j]? = some oj → j ≠ i → listed.getD j true = false → (∀ e ∈ oj.after, Region.binds md e = true → e.on ≠ i) → oi.apart ops oj = true ∧ (isStore oi = false ∨ isStore oj = false)) →
      i ∈ Region.ready md ops listed → cOp P ops B w0 pl i (wpAnyLC P md ops B w0 pl n Lq f (listed.setIfInBounds i true)) a E → wpAnyLC P md ops B w0 pl n Lq (f + 1) listed a E := by
  intro f
  induction f with
  | zero =>
    intro listed a E hE inv _ hr H
    have hun := (mem_ready.1 hr).1
    refine ⟨fun h => (by rw [h] at hr; cases hr), fun j hj => ?_⟩
    have hjn : j < n := by
      rcases Nat.lt_or_ge j n with h | h
      · exact h
      · exact absurd hj (tail_waits hs hc hn inv _ i rfl hin hun j h)
    refine ⟨hjn, ?_⟩
    by_cases hji : j = i
    · subst hji; exact H
    · exfalso
      exact cOp_no hi a E hE (cOp_mono (fun a E h => by have := hdone _ _ _ h j (ready_mono hj hji); omega) H)
  | succ f ih =>
    intro listed a E hE inv hfree hr H
    have hun := (mem_ready.1 hr).1
    refine ⟨fun h => (by rw [h] at hr; cases hr), fun j hj => ?_⟩
    have hjn : j < n := by
      rcases Nat.lt_or_ge j n with h | h
      · exact h
      · exact absurd hj (tail_waits hs hc hn inv _ i rfl hin hun j h)
    refine ⟨hjn, ?_⟩
    by_cases hji : j = i
    · subst hji; exact H
    · obtain ⟨hjun, oj, hoj, hall⟩ := mem_ready.1 hj
      have hnot : ∀ e ∈ oj.after, Region.binds md e = true → e.on ≠ i := fun e he hb heq => by
        have h1 := hall e he hb
        rw [heq, getD_both hun] at h1
        cases h1
      obtain ⟨hap, hst⟩ := hfree j oj hoj hji hjun hnot
      have h1 := cOp_mono (K' := fun a1 E1 => cOp P ops B w0 pl j (wpAnyLC P md ops B w0 pl n Lq f ((listed.setIfInBounds i true).setIfInBounds j true)) a1 E1) (fun a E h => (h.2 j (ready_mono hj hji)).2) H
      have h2 := cOp_swap hi hoj hap hst (fun cs b => hsel i oi cs b hi) (fun cs b => hsel j oj cs b hoj) hE h1
      refine cOp_mono_bounded hE (fun a' E' hE' h3 => ih (listed.setIfInBounds j true) a' E' hE' (inv.set hj hjn) ?_ (ready_mono hr (Ne.symm hji)) ?_) h2
      · intro k ok hk hki hun hno
        refine hfree k ok hk hki ?_ hno
        by_cases hjk : j = k
        · subst hjk; exact hjun
        · rw [getD_set_ne true hjk] at hun; exact hun
      · rw [Array.setIfInBounds_comm _ _ hji]
        exact h3
theorem wpAnyLC_lex {n g : Nat} {Lq : Act → Made → Prop} (hsel : Region.noSelect ops = true) (hst : storesB md ops = true) (hs : Region.sinkB md ops n = true) (hc : Region.chainB md ops n = true) (hn : n < ops.size) :
    ∀ (l : List Oper) (k : Nat) (listed : Array Bool) (a : Act) (E : Made), Bounded E → (∀ j, j < l.length → l[j]? = ops[k + j]?) → k + l.length = n → (∀ j, j < k → listed.getD j true = true) → HeadInv md ops n listed →
    Region.lexHead md ops g l.length k listed = true → wpLex P ops B w0 pl Lq l k a E →
    wpAnyLC P md ops B w0 pl n (fun listed' a' E' => Region.seqB md ops g n listed' = true ∧ Lq a' E') l.length listed a E
  | [], k, listed, a, E, _, hl, hk, _, _, hB, h => by
    have : k = n := by simpa using hk
    subst this
    exact ⟨by simpa [Region.lexHead] using hB, h⟩
  | o :: l, k, listed, a, E, hE, hl, hk, hkk, inv, hB, h => by
    have h0 : ops[k]? = some o := by simpa using (hl 0 (by simp)).symm
    simp only [List.length_cons, Region.lexHead, Bool.and_eq_true] at hB
    obtain ⟨⟨hr, hf⟩, hB'⟩ := hB
    have hkn : k < n := by simp only [List.length_cons] at hk; omega
    have hr' : k ∈ Region.ready md ops listed := by simpa using hr
    have hC : cOp P ops B w0 pl k (wpLex P ops B w0 pl Lq l (k + 1)) a E := by unfold cOp; simp only [h0]; exact h
    refine wpAnyLC_first h0 (Region.noSelect_spec hsel) hs hc hn hkn (fun listed' a' E' hL => seqB_ready hL.1) l.length listed a E hE inv (fun j oj hj hne hun hno => ⟨Region.free_spec h0 hf j oj hj hne hun hno, ?_⟩) hr' ?_
    · cases hso : isStore o with
      | false => exact .inl rfl
      | true =>
        cases hsj : isStore oj with
        | false => exact .inr rfl
        | true =>
          exfalso
          have hgt : k < j := by
            rcases Nat.lt_or_ge j k with h' | h'
            · rw [hkk j h'] at hun; cases hun
            · omega
          obtain ⟨e, he, hb, heq⟩ := storesB_spec hst h0 hj hgt hso hsj
          exact hno e he hb heq
    · refine cOp_mono_bounded hE (fun a' E' hE' h' => wpAnyLC_lex hsel hst hs hc hn l (k + 1) _ a' E' hE' (fun j hj => by have := hl (j + 1) (by simp; omega); simpa [Nat.add_assoc, Nat.add_comm 1 j] using this) (by simp only [List.length_cons] at hk; omega) (fun j hj => ?_) (inv.set hr' hkn) hB' h') hC
      by_cases hjk : j = k
      · subst hjk
        have hlt : j < listed.size := by rw [inv.size]; omega
        simp [hlt]
      · rw [getD_set_ne true (Ne.symm hjk)]; exact hkk j (by omega)
end
/-- What stands behind the tail. -/
def TailQ (P : Program) (ops : Array Oper) (Q : Exit → Act → World → Prop) (tail : List Oper) : Exit → Act → World → Prop := fun _ a w => wpList P ops Q tail a w
variable {P : Program} {n : Nat} {O : List Nat} {w0 : World} {l : List (Nat × Value)} {L : List (Nat × TypeId × Array Value)} {Q : Exit → Act → World → Prop} {ops : Array Oper}
theorem e_tail {tail : List Oper} (h : S P ops Q n O w0 tail l L) : E (TailQ P ops Q tail) n O w0 .normal l L := fun a w hF hL => h a w hF hL
theorem c_drawXT {id : Nat} {r : List Oper} (m : Nat) (pl : List Plan) (hm : P.follows .mixedOrders = true) (hB : Region.lexTailB .any r.toArray m = true) (hst : storesB .any r.toArray = true)
    (h : X P r.toArray (TailQ P r.toArray Q (r.drop m)) n O w0 (fun i => pl.getD i (.inl undef)) (r.take m) 0 l [] L) : C P Q n O w0 (.region id r.toArray true) l L := fun a w hF hL => by
  have hx := h a w (fun _ => none) hF hL ⟨by simp, fun _ hb => by cases hb⟩
  simp only [Region.lexTailB, Bool.and_eq_true, decide_eq_true_eq] at hB
  obtain ⟨⟨⟨⟨hsel, hn⟩, hs⟩, hc⟩, hlex⟩ := hB
  have hn' : m < r.length := by simpa using hn
  have htl : (r.take m).length = m := by simp; omega
  have hdl : (r.drop m).length = r.toArray.size - m := by simp
  have inv0 : HeadInv .any r.toArray m (Array.replicate r.toArray.size false) :=
    ⟨by simp, fun j oj _ hl => (by rw [getD_replicate_false] at hl; cases hl), fun t _ ht => getD_in (by simpa using ht) (getD_replicate_false _ _)⟩
  have H := wpAnyLC_lex (P := P) (B := w.heap.size) (w0 := w) (pl := fun i => pl.getD i (.inl undef)) (md := .any) (g := r.toArray.size - m) hsel hst hs hc hn (r.take m) 0 _ a (fun _ => none) ⟨0, fun _ _ => rfl⟩ (fun j hj => by
    have hj' : j < m := by rw [htl] at hj; exact hj
    simp [hj']) (by simpa using htl) (fun j hj => by omega) inv0 (by rw [htl]; exact hlex) hx
  refine wp_region_any hm ?_
  have := wpAny_of_headC (P := P) (B := w.heap.size) (w0 := w) (Q' := Q) (g := r.toArray.size - m) (Nat.le_refl _) (fun listed a' E' w' hw' hL' => by
    have := wpAny_of_seq (md := .any) (Q' := Q) (r.drop m) m listed a' w' (fun j => by simp [List.getElem?_drop]) (by rw [hdl]; exact hL'.1) (hL'.2 w' hw')
    rwa [hdl] at this) _ _ _ _ { w with drawn := w.drawn + 1 } ⟨⟨rfl, rfl, rfl, Nat.le_refl _, fun _ _ => rfl⟩, fun _ _ _ h => by cases h⟩ H
  rw [htl, show m + (r.toArray.size - m) = r.toArray.size by omega] at this
  exact this
end Go.Proofs.Ytnafnhpajkhgkaa.Wk
/- A walk that is begun anew behind a call: what the callee has made is old memory then. No condition. -/
namespace Go.Proofs.Ytnafnhpajkhgkaa
set_option linter.unusedVariables false
set_option linter.unusedSimpArgs false
open Go.RowKit Mem Wk
namespace Wk
variable {P : Program} {n : Nat} {w0 w1 : World} {l : List (Nat × Value)} {L K : List (Nat × TypeId × Array Value)} {Q : Exit → Act → World → Prop} {ops : Array Oper} {o : Oper} {rest : List Oper} {d : Nat} {x : Operand} {v : Value} {O : List Nat}
/-- old blocks that are known -/
def Kw (w : World) (K : List (Nat × TypeId × Array Value)) : Prop := ∀ b ∈ K, w.heap[b.1]? = some (.cells b.2.2 b.2.1 (0, 0))
theorem Kw.nil (w : World) : Kw w [] := fun b hb => by cases hb
theorem Kw.base (hK : Kw w0 K) (hL : Kn [] w0 w1 L) : Kw w1 (L ++ K) := fun b hb => by
  rcases List.mem_append.1 hb with h | h
  · exact hL.has b h
  · exact Kn.old hL (hK b h) (by simp)
theorem Kw.at_ (hK : Kw w0 K) {g : Nat} {T : TypeId} {cs : Array Value} (hm : (g, T, cs) ∈ K) {w : World} (hL : Kn [] w0 w L) : w.heap[g]? = some (.cells cs T (0, 0)) := Kn.old hL (hK _ hm) (by simp)
end Wk
end Go.Proofs.Ytnafnhpajkhgkaa
