/- Pastures that are written: one cell after another; loads of rows and grass; blocks that a callee has written. No condition. -/
import Derived.Test.YtfefkkpcjcnmcaaT
import Derived.Test.YtfefkkpcjcnmcaaAsk
namespace Go.Proofs.Ytfefkkpcjcnmcaa
set_option linter.unusedVariables false
set_option linter.unusedSimpArgs false
open Go.RowKit Mem Wk

def upd (p : Nat → Int) (i : Nat) (v : Int) : Nat → Int := fun j => if j = i then v else p j
theorem upd_at (p : Nat → Int) (i : Nat) (v : Int) : upd p i v i = v := by simp [upd]
theorem upd_ne (p : Nat → Int) {i j : Nat} (v : Int) (h : j ≠ i) : upd p i v j = p j := by simp [upd, h]
theorem upd_upd (p : Nat → Int) (i : Nat) (v u : Int) : upd (upd p i v) i u = upd p i u := by funext j; simp only [upd]; split <;> rfl
theorem upd_id (p : Nat → Int) (i : Nat) : upd p i (p i) = p := by funext j; simp only [upd]; split <;> simp_all
theorem Pv.setRow {p : Nat → Int} {cs : Array Value} {i : Nat} {v : Int} (hp : Pv p cs) (h1 : 102 ≤ i) (h2 : i < 122) (h3 : 0 ≤ v ∧ v ≤ 65535) : Pv (upd p i v) (cs.setIfInBounds i (.int .u16 v)) := by
  refine ⟨by simp [hp.size], fun j hj => ?_, fun j hj => by rw [upd_ne _ _ (by omega)]; exact hp.i8 j hj, fun j h h' => by rw [upd_ne _ _ (by omega)]; exact hp.i16 j h h', fun j h h' => ?_⟩
  · by_cases e : j = i
    · subst e
      have : pk j = .u16 := by unfold pk; rw [if_neg (by omega), if_neg (by omega)]
      rw [this, upd_at]; simp [hp.size, h2]
    · rw [upd_ne _ _ e, Array.getElem?_setIfInBounds_ne (by omega)]; exact hp.get j hj
  · by_cases e : j = i
    · subst e; rw [upd_at]; exact h3
    · rw [upd_ne _ _ e]; exact hp.u16 j h h'
theorem Pv.setGrass {p : Nat → Int} {cs : Array Value} {i : Nat} {v : Int} (hp : Pv p cs) (h1 : 2 ≤ i) (h2 : i < 102) (h3 : -32768 ≤ v ∧ v ≤ 32767) : Pv (upd p i v) (cs.setIfInBounds i (.int .i16 v)) := by
  refine ⟨by simp [hp.size], fun j hj => ?_, fun j hj => by rw [upd_ne _ _ (by omega)]; exact hp.i8 j hj, fun j h h' => ?_, fun j h h' => by rw [upd_ne _ _ (by omega)]; exact hp.u16 j h h'⟩
  · by_cases e : j = i
    · subst e
      have : pk j = .i16 := by unfold pk; rw [if_neg (by omega), if_pos h2]
      rw [this, upd_at]; have h122 : j < 122 := by omega
      simp [hp.size, h122]
    · rw [upd_ne _ _ e, Array.getElem?_setIfInBounds_ne (by omega)]; exact hp.get j hj
  · by_cases e : j = i
    · subst e; rw [upd_at]; exact h3
    · rw [upd_ne _ _ e]; exact hp.i16 j h h'
/-! loads at the places that a walk spells -/
theorem Pv.eastA {p : Nat → Int} {cs : Array Value} {y : Int} (hp : Pv p cs) (h0 : 0 ≤ y) (h1 : y < 10) : cs[0 + 102 + y.toNat * 1]? = some (.int .u16 (p (102 + y.toNat))) := by
  rw [show 0 + 102 + y.toNat * 1 = 102 + y.toNat by omega]; exact hp.side _ (by omega) (by omega)
theorem Pv.southA {p : Nat → Int} {cs : Array Value} {y : Int} (hp : Pv p cs) (h0 : 0 ≤ y) (h1 : y < 10) : cs[0 + 112 + y.toNat * 1]? = some (.int .u16 (p (112 + y.toNat))) := by
  rw [show 0 + 112 + y.toNat * 1 = 112 + y.toNat by omega]; exact hp.side _ (by omega) (by omega)
theorem Pv.eastN {p : Nat → Int} {cs : Array Value} {y : Nat} (hp : Pv p cs) (h1 : y < 10) : cs[0 + 102 + y * 1]? = some (.int .u16 (p (102 + y))) := by
  rw [show 0 + 102 + y * 1 = 102 + y by omega]; exact hp.side _ (by omega) (by omega)
theorem Pv.southN {p : Nat → Int} {cs : Array Value} {y : Nat} (hp : Pv p cs) (h1 : y < 10) : cs[0 + 112 + y * 1]? = some (.int .u16 (p (112 + y))) := by
  rw [show 0 + 112 + y * 1 = 112 + y by omega]; exact hp.side _ (by omega) (by omega)
/-- the place of a cell's grass -/
def gi (x y : Int) : Nat := 2 + y.toNat * 10 + x.toNat
theorem Pv.grassA {p : Nat → Int} {cs : Array Value} {x y : Int} (hp : Pv p cs) (h0 : 0 ≤ x ∧ x < 10) (h1 : 0 ≤ y ∧ y < 10) : cs[0 + 2 + y.toNat * 10 + x.toNat * 1]? = some (.int .i16 (p (gi x y))) := by
  unfold gi; rw [show 0 + 2 + y.toNat * 10 + x.toNat * 1 = 2 + y.toNat * 10 + x.toNat by omega]; exact hp.grass _ (by omega) (by omega)
theorem Pv.grassN {p : Nat → Int} {cs : Array Value} {x y : Nat} (hp : Pv p cs) (h0 : x < 10) (h1 : y < 10) : cs[0 + 2 + y * 10 + x * 1]? = some (.int .i16 (p (gi x y))) := by
  unfold gi; rw [show 0 + 2 + y * 10 + x * 1 = 2 + (y : Int).toNat * 10 + (x : Int).toNat by omega]; exact hp.grass _ (by omega) (by omega)
theorem gi_lt {x y : Int} (h0 : 0 ≤ x ∧ x < 10) (h1 : 0 ≤ y ∧ y < 10) : 2 ≤ gi x y ∧ gi x y < 102 := by unfold gi; omega
theorem Pv.at8 {p : Nat → Int} {cs : Array Value} (h : Pv p cs) : (-128 ≤ p 0 ∧ p 0 ≤ 127) ∧ -128 ≤ p 1 ∧ p 1 ≤ 127 := ⟨h.i8 0 (by omega), h.i8 1 (by omega)⟩
/-! bits of rows -/
def bitB (v x : Int) : Bool := decide (andV .u16 (shrV .u16 v x) 1 = 1)
def rowV (v x : Int) (on : Bool) : Int := if on then orV .u16 (anV .u16 v (shlV .u16 1 x)) (shlV .u16 1 x) else anV .u16 v (shlV .u16 1 x)
theorem u16_range (m : Int) : 0 ≤ IntKind.u16.wrap m ∧ IntKind.u16.wrap m ≤ 65535 := by
  simp [IntKind.wrap, IntKind.bits, IntKind.signed]; omega
theorem anV_range (a b : Int) : 0 ≤ anV .u16 a b ∧ anV .u16 a b ≤ 65535 := u16_range _
theorem orV_range (a b : Int) : 0 ≤ orV .u16 a b ∧ orV .u16 a b ≤ 65535 := u16_range _
theorem rowV_range (v x : Int) (on : Bool) : 0 ≤ rowV v x on ∧ rowV v x on ≤ 65535 := by unfold rowV; split; exact orV_range _ _; exact anV_range _ _
/-! a block that a callee has written -/
structure Upd (w w' : World) (g : Nat) (T : TypeId) (cs' : Array Value) : Prop where
  os : w'.os = w.os
  tape : w'.tape = w.tape
  output : w'.output = w.output
  size : w.heap.size ≤ w'.heap.size
  keep : ∀ k, k < w.heap.size → k ≠ g → w'.heap[k]? = w.heap[k]?
  has : w'.heap[g]? = some (.cells cs' T (0, 0))
theorem Upd.of {w0 w : World} {g : Nat} {T : TypeId} {cs' : Array Value} {L : List (Nat × TypeId × Array Value)} (h : Kn [g] w0 w L) (hm : (g, T, cs') ∈ L) : Upd w0 w g T cs' :=
  ⟨h.os, h.tape, h.output, h.size, fun k hk hne => Own.others h k hk hne, h.has _ hm⟩
theorem Kn.upd {O : List Nat} {w0 w w' : World} {L : List (Nat × TypeId × Array Value)} {i g : Nat} {T : TypeId} {cs cs' : Array Value} (h : Kn O w0 w L) (hi : L[i]? = some (g, T, cs)) (hu : Upd w w' g T cs') : Kn O w0 w' (L.set i (g, T, cs')) := by
  have h1 := h.put (cs' := cs') hi
  have hlt : ∀ x ∈ L, x.1 < w.heap.size := fun x hx => (Array.getElem?_eq_some_iff.1 (h.has x hx)).1
  have hgm : (g, T, cs) ∈ L := List.mem_of_getElem? hi
  have hsame : ∀ k, k < w.heap.size → w'.heap[k]? = (w.setRow g cs').heap[k]? := fun k hk => by
    by_cases e : k = g
    · subst e; rw [hu.has, setRow_heap w k cs cs' T (0, 0) (h.has _ hgm)]
    · rw [hu.keep k hk e, setRow_other w g k cs' e]
  have hmem : ∀ x ∈ L.set i (g, T, cs'), x.1 < w.heap.size := fun x hx => by
    have := (Array.getElem?_eq_some_iff.1 (h1.has x hx)).1
    simpa using this
  refine ⟨hu.os.trans h.os, hu.tape.trans h.tape, hu.output.trans h.output, Nat.le_trans h.size hu.size, h.base, fun k hk hx => ?_, h1.low, fun x hx => ?_, h1.nodup⟩
  · have hk' : k < w.heap.size := by have := h.size; omega
    rw [hsame k hk']; exact h1.keep k hk hx
  · rw [hsame x.1 (hmem x hx)]; exact h1.has x hx
theorem Below.setOs {w w' : World} (h : Below w.heap.size w w') : True := trivial
theorem s_callM0 {P : Program} {ops : Array Oper} {Q : Exit → Act → World → Prop} {n : Nat} {O : List Nat} {w0 : World} {o : Oper} {rest : List Oper} {l : List (Nat × Value)} {L : List (Nat × TypeId × Array Value)} {g : Nat} {T : TypeId} {cs : Array Value} {f : FuncId} {fn : Func} {xs : Array Operand} {ts : Array TypeId} {vs : List Value} {d : Nat} {v : Value} {Pf : Array Value → Prop} (hf : P.funcs[f]? = some fn) (hname : (fn.name == "runtime.NumGoroutine") = false) (hb : fn.body.isSome = true) (hg : o.guard = none) (hd : o.dst = some d) (hn : Nat.blt d n = true) (hop : o.op = .call { callee := .value (.func f), args := xs, argTypes := ts }) (hargs : evs l xs.toList = some vs) (hc : ∀ w, Kn O w0 w ((g, T, cs) :: L) → w.heap[g]? = some (.cells cs T (0, 0)) → Calls P f vs.toArray w fun e w' => e = .returned v ∧ ∃ cs', Pf cs' ∧ Upd w w' g T cs') (h : ∀ cs', Pf cs' → S P ops Q n O w0 rest ((d, v) :: l) ((g, T, cs') :: L)) : S P ops Q n O w0 (o :: rest) l ((g, T, cs) :: L) := s_callR (ι := Array Value) Pf (fun _ => v) (fun c => (g, T, c) :: L) hf hname hb hg hd hn hop hargs (fun w hL => (hc w hL (hL.at_ m0)).mono fun e w' ⟨he, cs', hP, hu⟩ => ⟨cs', hP, he, Kn.upd (i := 0) hL rfl hu⟩) h
theorem s_callM1 {P : Program} {ops : Array Oper} {Q : Exit → Act → World → Prop} {n : Nat} {O : List Nat} {w0 : World} {o : Oper} {rest : List Oper} {l : List (Nat × Value)} {L : List (Nat × TypeId × Array Value)} {b0 : Nat × TypeId × Array Value} {g : Nat} {T : TypeId} {cs : Array Value} {f : FuncId} {fn : Func} {xs : Array Operand} {ts : Array TypeId} {vs : List Value} {d : Nat} {v : Value} {Pf : Array Value → Prop} (hf : P.funcs[f]? = some fn) (hname : (fn.name == "runtime.NumGoroutine") = false) (hb : fn.body.isSome = true) (hg : o.guard = none) (hd : o.dst = some d) (hn : Nat.blt d n = true) (hop : o.op = .call { callee := .value (.func f), args := xs, argTypes := ts }) (hargs : evs l xs.toList = some vs) (hc : ∀ w, Kn O w0 w (b0 :: (g, T, cs) :: L) → w.heap[g]? = some (.cells cs T (0, 0)) → Calls P f vs.toArray w fun e w' => e = .returned v ∧ ∃ cs', Pf cs' ∧ Upd w w' g T cs') (h : ∀ cs', Pf cs' → S P ops Q n O w0 rest ((d, v) :: l) (b0 :: (g, T, cs') :: L)) : S P ops Q n O w0 (o :: rest) l (b0 :: (g, T, cs) :: L) := s_callR (ι := Array Value) Pf (fun _ => v) (fun c => b0 :: (g, T, c) :: L) hf hname hb hg hd hn hop hargs (fun w hL => (hc w hL (hL.at_ m1)).mono fun e w' ⟨he, cs', hP, hu⟩ => ⟨cs', hP, he, Kn.upd (i := 1) hL rfl hu⟩) h
theorem s_callM2 {P : Program} {ops : Array Oper} {Q : Exit → Act → World → Prop} {n : Nat} {O : List Nat} {w0 : World} {o : Oper} {rest : List Oper} {l : List (Nat × Value)} {L : List (Nat × TypeId × Array Value)} {b0 b1 : Nat × TypeId × Array Value} {g : Nat} {T : TypeId} {cs : Array Value} {f : FuncId} {fn : Func} {xs : Array Operand} {ts : Array TypeId} {vs : List Value} {d : Nat} {v : Value} {Pf : Array Value → Prop} (hf : P.funcs[f]? = some fn) (hname : (fn.name == "runtime.NumGoroutine") = false) (hb : fn.body.isSome = true) (hg : o.guard = none) (hd : o.dst = some d) (hn : Nat.blt d n = true) (hop : o.op = .call { callee := .value (.func f), args := xs, argTypes := ts }) (hargs : evs l xs.toList = some vs) (hc : ∀ w, Kn O w0 w (b0 :: b1 :: (g, T, cs) :: L) → w.heap[g]? = some (.cells cs T (0, 0)) → Calls P f vs.toArray w fun e w' => e = .returned v ∧ ∃ cs', Pf cs' ∧ Upd w w' g T cs') (h : ∀ cs', Pf cs' → S P ops Q n O w0 rest ((d, v) :: l) (b0 :: b1 :: (g, T, cs') :: L)) : S P ops Q n O w0 (o :: rest) l (b0 :: b1 :: (g, T, cs) :: L) := s_callR (ι := Array Value) Pf (fun _ => v) (fun c => b0 :: b1 :: (g, T, c) :: L) hf hname hb hg hd hn hop hargs (fun w hL => (hc w hL (hL.at_ m2)).mono fun e w' ⟨he, cs', hP, hu⟩ => ⟨cs', hP, he, Kn.upd (i := 2) hL rfl hu⟩) h
theorem s_callM3 {P : Program} {ops : Array Oper} {Q : Exit → Act → World → Prop} {n : Nat} {O : List Nat} {w0 : World} {o : Oper} {rest : List Oper} {l : List (Nat × Value)} {L : List (Nat × TypeId × Array Value)} {b0 b1 b2 : Nat × TypeId × Array Value} {g : Nat} {T : TypeId} {cs : Array Value} {f : FuncId} {fn : Func} {xs : Array Operand} {ts : Array TypeId} {vs : List Value} {d : Nat} {v : Value} {Pf : Array Value → Prop} (hf : P.funcs[f]? = some fn) (hname : (fn.name == "runtime.NumGoroutine") = false) (hb : fn.body.isSome = true) (hg : o.guard = none) (hd : o.dst = some d) (hn : Nat.blt d n = true) (hop : o.op = .call { callee := .value (.func f), args := xs, argTypes := ts }) (hargs : evs l xs.toList = some vs) (hc : ∀ w, Kn O w0 w (b0 :: b1 :: b2 :: (g, T, cs) :: L) → w.heap[g]? = some (.cells cs T (0, 0)) → Calls P f vs.toArray w fun e w' => e = .returned v ∧ ∃ cs', Pf cs' ∧ Upd w w' g T cs') (h : ∀ cs', Pf cs' → S P ops Q n O w0 rest ((d, v) :: l) (b0 :: b1 :: b2 :: (g, T, cs') :: L)) : S P ops Q n O w0 (o :: rest) l (b0 :: b1 :: b2 :: (g, T, cs) :: L) := s_callR (ι := Array Value) Pf (fun _ => v) (fun c => b0 :: b1 :: b2 :: (g, T, c) :: L) hf hname hb hg hd hn hop hargs (fun w hL => (hc w hL (hL.at_ m3)).mono fun e w' ⟨he, cs', hP, hu⟩ => ⟨cs', hP, he, Kn.upd (i := 3) hL rfl hu⟩) h
theorem s_callM4 {P : Program} {ops : Array Oper} {Q : Exit → Act → World → Prop} {n : Nat} {O : List Nat} {w0 : World} {o : Oper} {rest : List Oper} {l : List (Nat × Value)} {L : List (Nat × TypeId × Array Value)} {b0 b1 b2 b3 : Nat × TypeId × Array Value} {g : Nat} {T : TypeId} {cs : Array Value} {f : FuncId} {fn : Func} {xs : Array Operand} {ts : Array TypeId} {vs : List Value} {d : Nat} {v : Value} {Pf : Array Value → Prop} (hf : P.funcs[f]? = some fn) (hname : (fn.name == "runtime.NumGoroutine") = false) (hb : fn.body.isSome = true) (hg : o.guard = none) (hd : o.dst = some d) (hn : Nat.blt d n = true) (hop : o.op = .call { callee := .value (.func f), args := xs, argTypes := ts }) (hargs : evs l xs.toList = some vs) (hc : ∀ w, Kn O w0 w (b0 :: b1 :: b2 :: b3 :: (g, T, cs) :: L) → w.heap[g]? = some (.cells cs T (0, 0)) → Calls P f vs.toArray w fun e w' => e = .returned v ∧ ∃ cs', Pf cs' ∧ Upd w w' g T cs') (h : ∀ cs', Pf cs' → S P ops Q n O w0 rest ((d, v) :: l) (b0 :: b1 :: b2 :: b3 :: (g, T, cs') :: L)) : S P ops Q n O w0 (o :: rest) l (b0 :: b1 :: b2 :: b3 :: (g, T, cs) :: L) := s_callR (ι := Array Value) Pf (fun _ => v) (fun c => b0 :: b1 :: b2 :: b3 :: (g, T, c) :: L) hf hname hb hg hd hn hop hargs (fun w hL => (hc w hL (hL.at_ m4)).mono fun e w' ⟨he, cs', hP, hu⟩ => ⟨cs', hP, he, Kn.upd (i := 4) hL rfl hu⟩) h
theorem s_callM5 {P : Program} {ops : Array Oper} {Q : Exit → Act → World → Prop} {n : Nat} {O : List Nat} {w0 : World} {o : Oper} {rest : List Oper} {l : List (Nat × Value)} {L : List (Nat × TypeId × Array Value)} {b0 b1 b2 b3 b4 : Nat × TypeId × Array Value} {g : Nat} {T : TypeId} {cs : Array Value} {f : FuncId} {fn : Func} {xs : Array Operand} {ts : Array TypeId} {vs : List Value} {d : Nat} {v : Value} {Pf : Array Value → Prop} (hf : P.funcs[f]? = some fn) (hname : (fn.name == "runtime.NumGoroutine") = false) (hb : fn.body.isSome = true) (hg : o.guard = none) (hd : o.dst = some d) (hn : Nat.blt d n = true) (hop : o.op = .call { callee := .value (.func f), args := xs, argTypes := ts }) (hargs : evs l xs.toList = some vs) (hc : ∀ w, Kn O w0 w (b0 :: b1 :: b2 :: b3 :: b4 :: (g, T, cs) :: L) → w.heap[g]? = some (.cells cs T (0, 0)) → Calls P f vs.toArray w fun e w' => e = .returned v ∧ ∃ cs', Pf cs' ∧ Upd w w' g T cs') (h : ∀ cs', Pf cs' → S P ops Q n O w0 rest ((d, v) :: l) (b0 :: b1 :: b2 :: b3 :: b4 :: (g, T, cs') :: L)) : S P ops Q n O w0 (o :: rest) l (b0 :: b1 :: b2 :: b3 :: b4 :: (g, T, cs) :: L) := s_callR (ι := Array Value) Pf (fun _ => v) (fun c => b0 :: b1 :: b2 :: b3 :: b4 :: (g, T, c) :: L) hf hname hb hg hd hn hop hargs (fun w hL => (hc w hL (hL.at_ m5)).mono fun e w' ⟨he, cs', hP, hu⟩ => ⟨cs', hP, he, Kn.upd (i := 5) hL rfl hu⟩) h
theorem s_callM6 {P : Program} {ops : Array Oper} {Q : Exit → Act → World → Prop} {n : Nat} {O : List Nat} {w0 : World} {o : Oper} {rest : List Oper} {l : List (Nat × Value)} {L : List (Nat × TypeId × Array Value)} {b0 b1 b2 b3 b4 b5 : Nat × TypeId × Array Value} {g : Nat} {T : TypeId} {cs : Array Value} {f : FuncId} {fn : Func} {xs : Array Operand} {ts : Array TypeId} {vs : List Value} {d : Nat} {v : Value} {Pf : Array Value → Prop} (hf : P.funcs[f]? = some fn) (hname : (fn.name == "runtime.NumGoroutine") = false) (hb : fn.body.isSome = true) (hg : o.guard = none) (hd : o.dst = some d) (hn : Nat.blt d n = true) (hop : o.op = .call { callee := .value (.func f), args := xs, argTypes := ts }) (hargs : evs l xs.toList = some vs) (hc : ∀ w, Kn O w0 w (b0 :: b1 :: b2 :: b3 :: b4 :: b5 :: (g, T, cs) :: L) → w.heap[g]? = some (.cells cs T (0, 0)) → Calls P f vs.toArray w fun e w' => e = .returned v ∧ ∃ cs', Pf cs' ∧ Upd w w' g T cs') (h : ∀ cs', Pf cs' → S P ops Q n O w0 rest ((d, v) :: l) (b0 :: b1 :: b2 :: b3 :: b4 :: b5 :: (g, T, cs') :: L)) : S P ops Q n O w0 (o :: rest) l (b0 :: b1 :: b2 :: b3 :: b4 :: b5 :: (g, T, cs) :: L) := s_callR (ι := Array Value) Pf (fun _ => v) (fun c => b0 :: b1 :: b2 :: b3 :: b4 :: b5 :: (g, T, c) :: L) hf hname hb hg hd hn hop hargs (fun w hL => (hc w hL (hL.at_ m6)).mono fun e w' ⟨he, cs', hP, hu⟩ => ⟨cs', hP, he, Kn.upd (i := 6) hL rfl hu⟩) h
theorem setP {p : Nat → Int} {c cs : Array Value} (h : Pv p cs) (h8 : c.size = 122) : Wk.Set c 0 cs cs := set_whole (by rw [h.size, h8]) h.one
/-- what a block holds, by another name -/
theorem absP0 {P : Program} {ops : Array Oper} {Q : Exit → Act → World → Prop} {n : Nat} {O : List Nat} {w0 : World} {rest : List Oper} {l : List (Nat × Value)} {L : List (Nat × TypeId × Array Value)} {g : Nat} {T : TypeId} {p' : Nat → Int} {cs : Array Value} (hp : Pv p' cs) (h : ∀ cs', Pv p' cs' → S P ops Q n O w0 rest l ((g, T, cs') :: L)) : S P ops Q n O w0 rest l ((g, T, cs) :: L) := h cs hp
theorem absP1 {P : Program} {ops : Array Oper} {Q : Exit → Act → World → Prop} {n : Nat} {O : List Nat} {w0 : World} {rest : List Oper} {l : List (Nat × Value)} {L : List (Nat × TypeId × Array Value)} {b0 : Nat × TypeId × Array Value} {g : Nat} {T : TypeId} {p' : Nat → Int} {cs : Array Value} (hp : Pv p' cs) (h : ∀ cs', Pv p' cs' → S P ops Q n O w0 rest l (b0 :: (g, T, cs') :: L)) : S P ops Q n O w0 rest l (b0 :: (g, T, cs) :: L) := h cs hp
theorem absP2 {P : Program} {ops : Array Oper} {Q : Exit → Act → World → Prop} {n : Nat} {O : List Nat} {w0 : World} {rest : List Oper} {l : List (Nat × Value)} {L : List (Nat × TypeId × Array Value)} {b0 b1 : Nat × TypeId × Array Value} {g : Nat} {T : TypeId} {p' : Nat → Int} {cs : Array Value} (hp : Pv p' cs) (h : ∀ cs', Pv p' cs' → S P ops Q n O w0 rest l (b0 :: b1 :: (g, T, cs') :: L)) : S P ops Q n O w0 rest l (b0 :: b1 :: (g, T, cs) :: L) := h cs hp
theorem absP3 {P : Program} {ops : Array Oper} {Q : Exit → Act → World → Prop} {n : Nat} {O : List Nat} {w0 : World} {rest : List Oper} {l : List (Nat × Value)} {L : List (Nat × TypeId × Array Value)} {b0 b1 b2 : Nat × TypeId × Array Value} {g : Nat} {T : TypeId} {p' : Nat → Int} {cs : Array Value} (hp : Pv p' cs) (h : ∀ cs', Pv p' cs' → S P ops Q n O w0 rest l (b0 :: b1 :: b2 :: (g, T, cs') :: L)) : S P ops Q n O w0 rest l (b0 :: b1 :: b2 :: (g, T, cs) :: L) := h cs hp
theorem absP4 {P : Program} {ops : Array Oper} {Q : Exit → Act → World → Prop} {n : Nat} {O : List Nat} {w0 : World} {rest : List Oper} {l : List (Nat × Value)} {L : List (Nat × TypeId × Array Value)} {b0 b1 b2 b3 : Nat × TypeId × Array Value} {g : Nat} {T : TypeId} {p' : Nat → Int} {cs : Array Value} (hp : Pv p' cs) (h : ∀ cs', Pv p' cs' → S P ops Q n O w0 rest l (b0 :: b1 :: b2 :: b3 :: (g, T, cs') :: L)) : S P ops Q n O w0 rest l (b0 :: b1 :: b2 :: b3 :: (g, T, cs) :: L) := h cs hp
theorem absP5 {P : Program} {ops : Array Oper} {Q : Exit → Act → World → Prop} {n : Nat} {O : List Nat} {w0 : World} {rest : List Oper} {l : List (Nat × Value)} {L : List (Nat × TypeId × Array Value)} {b0 b1 b2 b3 b4 : Nat × TypeId × Array Value} {g : Nat} {T : TypeId} {p' : Nat → Int} {cs : Array Value} (hp : Pv p' cs) (h : ∀ cs', Pv p' cs' → S P ops Q n O w0 rest l (b0 :: b1 :: b2 :: b3 :: b4 :: (g, T, cs') :: L)) : S P ops Q n O w0 rest l (b0 :: b1 :: b2 :: b3 :: b4 :: (g, T, cs) :: L) := h cs hp
theorem absP {P : Program} {ops : Array Oper} {Q : Exit → Act → World → Prop} {n : Nat} {O : List Nat} {w0 : World} {rest : List Oper} {l : List (Nat × Value)} {F : Array Value → List (Nat × TypeId × Array Value)} {p' : Nat → Int} {cs : Array Value} (hp : Pv p' cs) (h : ∀ cs', Pv p' cs' → S P ops Q n O w0 rest l (F cs')) : S P ops Q n O w0 rest l (F cs) := h cs hp
/-! what a type's zero is, what a struct's parts make -/
theorem zImplSpot : (Try.prog.info? 38).map (·.zero) = some (some (.agg #[.int .i8 0, .int .i8 0])) := by kernel_rfl
theorem zImplHurdle : (Try.prog.info? 75).map (·.zero) = some (some (.agg #[.int .i8 0, .int .i8 0, .bool false])) := by kernel_rfl
theorem zImplPas : (Try.prog.info? 36).map (·.zero) = some (some (.agg zP)) := by kernel_rfl
theorem bSpot (u v : Value) (hu : u.oneCell' = true) (hv : v.oneCell' = true) (w : World) : (Instr.build 38 #[(0, u), (1, v)]).run Try.prog w = .ok (.agg #[u, v]) w := by
  cases u <;> cases v <;> first | (simp [Value.oneCell'] at hu hv; done) | kernel_rfl
theorem bHurdle (a b c : Value) (hc : c.oneCell' = true) (w : World) : (Instr.build 75 #[(0, .agg #[a, b]), (1, c)]).run Try.prog w = .ok (.agg #[a, b, c]) w := by
  cases c <;> first | (simp [Value.oneCell'] at hc; done) | kernel_rfl
theorem bPas0 (w : World) : (Instr.build 36 #[]).run Try.prog w = .ok (.agg zP) w := by kernel_rfl
end Go.Proofs.Ytfefkkpcjcnmcaa
