import Derived.Test.YtpifngdmlmfnhaaQE02
import Derived.Test.YtpifngdmlmfnhaaQE03
import Derived.Test.YtpifngdmlmfnhaaQE07
/- Pastures that are written: one cell after another; loads of rows and grass; blocks that a callee has written. No condition. -/
namespace Go.Proofs.Ytpifngdmlmfnhaa
set_option linter.unusedVariables false
set_option linter.unusedSimpArgs false
open Go.RowKit Mem Wk

def upd (p : Nat → Int) (i : Nat) (v : Int) : Nat → Int := fun j => if j = i then v else p j
theorem upd_at (p : Nat → Int) (i : Nat) (v : Int) : upd p i v i = v := by simp [upd]
theorem upd_ne (p : Nat → Int) {i j : Nat} (v : Int) (h : j ≠ i) : upd p i v j = p j := by simp [upd, h]
theorem upd_upd (p : Nat → Int) (i : Nat) (v u : Int) : upd (upd p i v) i u = upd p i u := by funext j; simp only [upd]; split <;> rfl
theorem Pv.setRow {p : Nat → Int} {cs : Array Value} {i : Nat} {v : Int} (hp : Pv p cs) (h1 : 102 ≤ i) (h2 : i < 122) (h3 : 0 ≤ v ∧ v ≤ 65535) : Pv (upd p i v) (cs.setIfInBounds i (.int .u16 v)) := by
  refine ⟨by simp [hp.size], fun j hj => ?_, fun j hj => by rw [upd_ne _ _ (by omega)]; exact hp.i8 j hj, fun j h h' => by rw [upd_ne _ _ (by omega)]; exact hp.i16 j h h', fun j h h' => ?_⟩
  · by_cases e : j = i
    · subst e
      have : pk j = .u16 := by unfold pk; rw [if_neg (by omega), if_neg (by omega)]
      rw [this, upd_at]; simp [hp.size, h2]
    · rw [upd_ne _ _ e, Array.getElem?_setIfInBounds_ne (by omega)]; exact hp.get j hj
  · by_cases e : j = i
    · subst e; rw [upd_at]; exact h3
    · rw [upd_ne _ _ e]; exact hp.u16 j h h'
theorem Pv.setGrass {p : Nat → Int} {cs : Array Value} {i : Nat} {v : Int} (hp : Pv p cs) (h1 : 2 ≤ i) (h2 : i < 102) (h3 : -32768 ≤ v ∧ v ≤ 32767) : Pv (upd p i v) (cs.setIfInBounds i (.int .i16 v)) := by
  refine ⟨by simp [hp.size], fun j hj => ?_, fun j hj => by rw [upd_ne _ _ (by omega)]; exact hp.i8 j hj, fun j h h' => ?_, fun j h h' => by rw [upd_ne _ _ (by omega)]; exact hp.u16 j h h'⟩
  · by_cases e : j = i
    · subst e
      have : pk j = .i16 := by unfold pk; rw [if_neg (by omega), if_pos h2]
      rw [this, upd_at]; have h122 : j < 122 := by omega
      simp [hp.size, h122]
    · rw [upd_ne _ _ e, Array.getElem?_setIfInBounds_ne (by omega)]; exact hp.get j hj
  · by_cases e : j = i
    · subst e; rw [upd_at]; exact h3
    · rw [upd_ne _ _ e]; exact hp.i16 j h h'
/-! loads at the places that a walk spells -/
theorem Pv.eastA {p : Nat → Int} {cs : Array Value} {y : Int} (hp : Pv p cs) (h0 : 0 ≤ y) (h1 : y < 10) : cs[0 + 102 + y.toNat * 1]? = some (.int .u16 (p (102 + y.toNat))) := by
  rw [show 0 + 102 + y.toNat * 1 = 102 + y.toNat by omega]; exact hp.side _ (by omega) (by omega)
theorem Pv.southA {p : Nat → Int} {cs : Array Value} {y : Int} (hp : Pv p cs) (h0 : 0 ≤ y) (h1 : y < 10) : cs[0 + 112 + y.toNat * 1]? = some (.int .u16 (p (112 + y.toNat))) := by
  rw [show 0 + 112 + y.toNat * 1 = 112 + y.toNat by omega]; exact hp.side _ (by omega) (by omega)
/-! bits of rows -/
def bitB (v x : Int) : Bool := decide (andV .u16 (shrV .u16 v x) 1 = 1)
def rowV (v x : Int) (on : Bool) : Int := if on then orV .u16 (anV .u16 v (shlV .u16 1 x)) (shlV .u16 1 x) else anV .u16 v (shlV .u16 1 x)
theorem u16_range (m : Int) : 0 ≤ IntKind.u16.wrap m ∧ IntKind.u16.wrap m ≤ 65535 := by
  simp [IntKind.wrap, IntKind.bits, IntKind.signed]; omega
theorem anV_range (a b : Int) : 0 ≤ anV .u16 a b ∧ anV .u16 a b ≤ 65535 := u16_range _
theorem orV_range (a b : Int) : 0 ≤ orV .u16 a b ∧ orV .u16 a b ≤ 65535 := u16_range _
/-! a block that a callee has written -/
structure Upd (w w' : World) (g : Nat) (T : TypeId) (cs' : Array Value) : Prop where
  os : w'.os = w.os
  tape : w'.tape = w.tape
  output : w'.output = w.output
  size : w.heap.size ≤ w'.heap.size
  keep : ∀ k, k < w.heap.size → k ≠ g → w'.heap[k]? = w.heap[k]?
  has : w'.heap[g]? = some (.cells cs' T (0, 0))
theorem Upd.of {w0 w : World} {g : Nat} {T : TypeId} {cs' : Array Value} {L : List (Nat × TypeId × Array Value)} (h : Kn [g] w0 w L) (hm : (g, T, cs') ∈ L) : Upd w0 w g T cs' :=
  ⟨h.os, h.tape, h.output, h.size, fun k hk hne => Own.others h k hk hne, h.has _ hm⟩
theorem Kn.upd {O : List Nat} {w0 w w' : World} {L : List (Nat × TypeId × Array Value)} {i g : Nat} {T : TypeId} {cs cs' : Array Value} (h : Kn O w0 w L) (hi : L[i]? = some (g, T, cs)) (hu : Upd w w' g T cs') : Kn O w0 w' (L.set i (g, T, cs')) := by
  have h1 := h.put (cs' := cs') hi
  have hlt : ∀ x ∈ L, x.1 < w.heap.size := fun x hx => (Array.getElem?_eq_some_iff.1 (h.has x hx)).1
  have hgm : (g, T, cs) ∈ L := List.mem_of_getElem? hi
  have hsame : ∀ k, k < w.heap.size → w'.heap[k]? = (w.setRow g cs').heap[k]? := fun k hk => by
    by_cases e : k = g
    · subst e; rw [hu.has, setRow_heap w k cs cs' T (0, 0) (h.has _ hgm)]
    · rw [hu.keep k hk e, setRow_other w g k cs' e]
  have hmem : ∀ x ∈ L.set i (g, T, cs'), x.1 < w.heap.size := fun x hx => by
    have := (Array.getElem?_eq_some_iff.1 (h1.has x hx)).1
    simpa using this
  refine ⟨hu.os.trans h.os, hu.tape.trans h.tape, hu.output.trans h.output, Nat.le_trans h.size hu.size, h.base, fun k hk hx => ?_, h1.low, fun x hx => ?_, h1.nodup⟩
  · have hk' : k < w.heap.size := by have := h.size; omega
    rw [hsame k hk']; exact h1.keep k hk hx
  · rw [hsame x.1 (hmem x hx)]; exact h1.has x hx
theorem s_callM0 {P : Program} {ops : Array Oper} {Q : Exit → Act → World → Prop} {n : Nat} {O : List Nat} {w0 : World} {o : Oper} {rest : List Oper} {l : List (Nat × Value)} {L : List (Nat × TypeId × Array Value)} {g : Nat} {T : TypeId} {cs : Array Value} {f : FuncId} {fn : Func} {xs : Array Operand} {ts : Array TypeId} {vs : List Value} {d : Nat} {v : Value} {Pf : Array Value → Prop} (hf : P.funcs[f]? = some fn) (hname : (fn.name == "runtime.NumGoroutine") = false) (hb : fn.body.isSome = true) (hg : o.guard = none) (hd : o.dst = some d) (hn : Nat.blt d n = true) (hop : o.op = .call { callee := .value (.func f), args := xs, argTypes := ts }) (hargs : evs l xs.toList = some vs) (hc : ∀ w, Kn O w0 w ((g, T, cs) :: L) → w.heap[g]? = some (.cells cs T (0, 0)) → Calls P f vs.toArray w fun e w' => e = .returned v ∧ ∃ cs', Pf cs' ∧ Upd w w' g T cs') (h : ∀ cs', Pf cs' → S P ops Q n O w0 rest ((d, v) :: l) ((g, T, cs') :: L)) : S P ops Q n O w0 (o :: rest) l ((g, T, cs) :: L) := s_callR (ι := Array Value) Pf (fun _ => v) (fun c => (g, T, c) :: L) hf hname hb hg hd hn hop hargs (fun w hL => (hc w hL (hL.at_ m0)).mono fun e w' ⟨he, cs', hP, hu⟩ => ⟨cs', hP, he, Kn.upd (i := 0) hL rfl hu⟩) h
theorem s_callM1 {P : Program} {ops : Array Oper} {Q : Exit → Act → World → Prop} {n : Nat} {O : List Nat} {w0 : World} {o : Oper} {rest : List Oper} {l : List (Nat × Value)} {L : List (Nat × TypeId × Array Value)} {b0 : Nat × TypeId × Array Value} {g : Nat} {T : TypeId} {cs : Array Value} {f : FuncId} {fn : Func} {xs : Array Operand} {ts : Array TypeId} {vs : List Value} {d : Nat} {v : Value} {Pf : Array Value → Prop} (hf : P.funcs[f]? = some fn) (hname : (fn.name == "runtime.NumGoroutine") = false) (hb : fn.body.isSome = true) (hg : o.guard = none) (hd : o.dst = some d) (hn : Nat.blt d n = true) (hop : o.op = .call { callee := .value (.func f), args := xs, argTypes := ts }) (hargs : evs l xs.toList = some vs) (hc : ∀ w, Kn O w0 w (b0 :: (g, T, cs) :: L) → w.heap[g]? = some (.cells cs T (0, 0)) → Calls P f vs.toArray w fun e w' => e = .returned v ∧ ∃ cs', Pf cs' ∧ Upd w w' g T cs') (h : ∀ cs', Pf cs' → S P ops Q n O w0 rest ((d, v) :: l) (b0 :: (g, T, cs') :: L)) : S P ops Q n O w0 (o :: rest) l (b0 :: (g, T, cs) :: L) := s_callR (ι := Array Value) Pf (fun _ => v) (fun c => b0 :: (g, T, c) :: L) hf hname hb hg hd hn hop hargs (fun w hL => (hc w hL (hL.at_ m1)).mono fun e w' ⟨he, cs', hP, hu⟩ => ⟨cs', hP, he, Kn.upd (i := 1) hL rfl hu⟩) h
theorem s_callM2 {P : Program} {ops : Array Oper} {Q : Exit → Act → World → Prop} {n : Nat} {O : List Nat} {w0 : World} {o : Oper} {rest : List Oper} {l : List (Nat × Value)} {L : List (Nat × TypeId × Array Value)} {b0 b1 : Nat × TypeId × Array Value} {g : Nat} {T : TypeId} {cs : Array Value} {f : FuncId} {fn : Func} {xs : Array Operand} {ts : Array TypeId} {vs : List Value} {d : Nat} {v : Value} {Pf : Array Value → Prop} (hf : P.funcs[f]? = some fn) (hname : (fn.name == "runtime.NumGoroutine") = false) (hb : fn.body.isSome = true) (hg : o.guard = none) (hd : o.dst = some d) (hn : Nat.blt d n = true) (hop : o.op = .call { callee := .value (.func f), args := xs, argTypes := ts }) (hargs : evs l xs.toList = some vs) (hc : ∀ w, Kn O w0 w (b0 :: b1 :: (g, T, cs) :: L) → w.heap[g]? = some (.cells cs T (0, 0)) → Calls P f vs.toArray w fun e w' => e = .returned v ∧ ∃ cs', Pf cs' ∧ Upd w w' g T cs') (h : ∀ cs', Pf cs' → S P ops Q n O w0 rest ((d, v) :: l) (b0 :: b1 :: (g, T, cs') :: L)) : S P ops Q n O w0 (o :: rest) l (b0 :: b1 :: (g, T, cs) :: L) := s_callR (ι := Array Value) Pf (fun _ => v) (fun c => b0 :: b1 :: (g, T, c) :: L) hf hname hb hg hd hn hop hargs (fun w hL => (hc w hL (hL.at_ m2)).mono fun e w' ⟨he, cs', hP, hu⟩ => ⟨cs', hP, he, Kn.upd (i := 2) hL rfl hu⟩) h
theorem s_callM3 {P : Program} {ops : Array Oper} {Q : Exit → Act → World → Prop} {n : Nat} {O : List Nat} {w0 : World} {o : Oper} {rest : List Oper} {l : List (Nat × Value)} {L : List (Nat × TypeId × Array Value)} {b0 b1 b2 : Nat × TypeId × Array Value} {g : Nat} {T : TypeId} {cs : Array Value} {f : FuncId} {fn : Func} {xs : Array Operand} {ts : Array TypeId} {vs : List Value} {d : Nat} {v : Value} {Pf : Array Value → Prop} (hf : P.funcs[f]? = some fn) (hname : (fn.name == "runtime.NumGoroutine") = false) (hb : fn.body.isSome = true) (hg : o.guard = none) (hd : o.dst = some d) (hn : Nat.blt d n = true) (hop : o.op = .call { callee := .value (.func f), args := xs, argTypes := ts }) (hargs : evs l xs.toList = some vs) (hc : ∀ w, Kn O w0 w (b0 :: b1 :: b2 :: (g, T, cs) :: L) → w.heap[g]? = some (.cells cs T (0, 0)) → Calls P f vs.toArray w fun e w' => e = .returned v ∧ ∃ cs', Pf cs' ∧ Upd w w' g T cs') (h : ∀ cs', Pf cs' → S P ops Q n O w0 rest ((d, v) :: l) (b0 :: b1 :: b2 :: (g, T, cs') :: L)) : S P ops Q n O w0 (o :: rest) l (b0 :: b1 :: b2 :: (g, T, cs) :: L) := s_callR (ι := Array Value) Pf (fun _ => v) (fun c => b0 :: b1 :: b2 :: (g, T, c) :: L) hf hname hb hg hd hn hop hargs (fun w hL => (hc w hL (hL.at_ m3)).mono fun e w' ⟨he, cs', hP, hu⟩ => ⟨cs', hP, he, Kn.upd (i := 3) hL rfl hu⟩) h
theorem setP {p : Nat → Int} {c cs : Array Value} (h : Pv p cs) (h8 : c.size = 122) : Wk.Set c 0 cs cs := set_whole (by rw [h.size, h8]) h.one
/-- what a block holds, by another name -/
theorem absP0 {P : Program} {ops : Array Oper} {Q : Exit → Act → World → Prop} {n : Nat} {O : List Nat} {w0 : World} {rest : List Oper} {l : List (Nat × Value)} {L : List (Nat × TypeId × Array Value)} {g : Nat} {T : TypeId} {p' : Nat → Int} {cs : Array Value} (hp : Pv p' cs) (h : ∀ cs', Pv p' cs' → S P ops Q n O w0 rest l ((g, T, cs') :: L)) : S P ops Q n O w0 rest l ((g, T, cs) :: L) := h cs hp
theorem absP1 {P : Program} {ops : Array Oper} {Q : Exit → Act → World → Prop} {n : Nat} {O : List Nat} {w0 : World} {rest : List Oper} {l : List (Nat × Value)} {L : List (Nat × TypeId × Array Value)} {b0 : Nat × TypeId × Array Value} {g : Nat} {T : TypeId} {p' : Nat → Int} {cs : Array Value} (hp : Pv p' cs) (h : ∀ cs', Pv p' cs' → S P ops Q n O w0 rest l (b0 :: (g, T, cs') :: L)) : S P ops Q n O w0 rest l (b0 :: (g, T, cs) :: L) := h cs hp
/-! what a type's zero is, what a struct's parts make -/
theorem zImplSpot : (Try.prog.info? 88).map (·.zero) = some (some (.agg #[.int .i8 0, .int .i8 0])) := by kernel_rfl
theorem zImplHurdle : (Try.prog.info? 175).map (·.zero) = some (some (.agg #[.int .i8 0, .int .i8 0, .bool false])) := by kernel_rfl
theorem zImplPas : (Try.prog.info? 34).map (·.zero) = some (some (.agg zP)) := by kernel_rfl
theorem bSpot (u v : Value) (hu : u.oneCell' = true) (hv : v.oneCell' = true) (w : World) : (Instr.build 88 #[(0, u), (1, v)]).run Try.prog w = .ok (.agg #[u, v]) w := by
  cases u <;> cases v <;> first | (simp [Value.oneCell'] at hu hv; done) | kernel_rfl
theorem bHurdle (a b c : Value) (hc : c.oneCell' = true) (w : World) : (Instr.build 175 #[(0, .agg #[a, b]), (1, c)]).run Try.prog w = .ok (.agg #[a, b, c]) w := by
  cases c <;> first | (simp [Value.oneCell'] at hc; done) | kernel_rfl
theorem zSet {cs vs cs' : Array Value} {off : Nat} (h : Wk.Set cs off vs cs' := by (first | exact setP zP_pv rfl | exact setP (by assumption) rfl | exact setP (by assumption) (Pv.size (by assumption)) | exact set_whole rfl (by simp [Value.oneCell', Hd.cells, Sp.cells, Sk.cells, Gt.cells]) | exact setl0 rfl | exact setl1 rfl | exact setl2 rfl | exact setl3 rfl | exact setl4 rfl | exact setl5 rfl | exact setl6 rfl | exact setl7 rfl | exact set2_0 rfl rfl | exact set2_2 rfl rfl)) : Wk.Set cs off vs cs' := h
theorem zLd {ty : TypeId} {off : Nat} {cs : Array Value} {v : Value} (h : Ldv Try.prog ty cs off v := by (first | exact ldvW tb rfl rfl | exact ldvW tb rfl (by assumption) | exact ldvW tb rfl (Pv.size (by assumption)) | exact ldvN tb rfl ext2_0 rfl | exact ldvN tb rfl ext2_2 rfl)) : Ldv Try.prog ty cs off v := h
theorem zLe {ty : TypeId} {off : Nat} {cs : Array Value} {v : Value} (h : Ldv Try.prog ty cs off v := by (first | exact ldvL tb rfl rfl | exact ldv1 tb rfl (by assumption) | exact ldvW tb rfl rfl | exact ldvW tb rfl (by assumption) | exact ldvW tb rfl (Pv.size (by assumption)) | exact ldvN tb rfl ext2_0 rfl | exact ldvN tb rfl ext2_2 rfl)) : Ldv Try.prog ty cs off v := h
end Go.Proofs.Ytpifngdmlmfnhaa
/- A region that draws its order: calm operations, and behind all of them a tail in order, which may write. Plain theorems; no condition. -/
namespace Go.Proofs.Ytpifngdmlmfnhaa.Wk
set_option linter.unusedVariables false
set_option linter.unusedSimpArgs false
open Go Go.RowKit Mem Calm
section
variable {P : Program} {ops : Array Oper} {md : Region.Mode} {B : Nat} {w0 : World} {pl : Nat → Plan}
theorem cOp_no {i : Nat} {oi : Oper} (hi : ops[i]? = some oi) (a : Act) (E : Made) (hE : Bounded E) : ¬ cOp P ops B w0 pl i (fun _ _ => False) a E := by
  intro h
  unfold cOp at h
  simp only [hi] at h
  split at h
  · generalize pl i = p at h
    match p with
    | .inl v => exact h.2
    | .inr (false, T, cs) => obtain ⟨g, g1, g2, _⟩ := hE.fresh B 0; exact h.2 g g1 g2
    | .inr (true, T, cs) => obtain ⟨_, _, _, _, _, _, _, _, _, _, h⟩ := h; exact h
  · exact h
end
variable {P : Program} {n : Nat} {O : List Nat} {w0 : World} {l : List (Nat × Value)} {L : List (Nat × TypeId × Array Value)} {Q : Exit → Act → World → Prop} {ops : Array Oper}
end Go.Proofs.Ytpifngdmlmfnhaa.Wk
/- A walk that is begun anew behind a call: what the callee has made is old memory then. No condition. -/
namespace Go.Proofs.Ytpifngdmlmfnhaa
set_option linter.unusedVariables false
set_option linter.unusedSimpArgs false
open Go.RowKit Mem Wk
namespace Wk
variable {P : Program} {n : Nat} {w0 w1 : World} {l : List (Nat × Value)} {L K : List (Nat × TypeId × Array Value)} {Q : Exit → Act → World → Prop} {ops : Array Oper} {o : Oper} {rest : List Oper} {d : Nat} {x : Operand} {v : Value} {O : List Nat}
/-- old blocks that are known -/
def Kw (w : World) (K : List (Nat × TypeId × Array Value)) : Prop := ∀ b ∈ K, w.heap[b.1]? = some (.cells b.2.2 b.2.1 (0, 0))
theorem Kw.nil (w : World) : Kw w [] := fun b hb => by cases hb
theorem Kw.base (hK : Kw w0 K) (hL : Kn [] w0 w1 L) : Kw w1 (L ++ K) := fun b hb => by
  rcases List.mem_append.1 hb with h | h
  · exact hL.has b h
  · exact Kn.old hL (hK b h) (by simp)
theorem Kw.at_ (hK : Kw w0 K) {g : Nat} {T : TypeId} {cs : Array Value} (hm : (g, T, cs) ∈ K) {w : World} (hL : Kn [] w0 w L) : w.heap[g]? = some (.cells cs T (0, 0)) := Kn.old hL (hK _ hm) (by simp)
end Wk
end Go.Proofs.Ytpifngdmlmfnhaa
/- Hurdles at the sides of cells: hurdleAt, stands, put; the reference's l01Closed and l01Set. No condition. -/
namespace Go.Proofs.Ytpifngdmlmfnhaa
set_option linter.unusedVariables false
set_option linter.unusedSimpArgs false
open Go.RowKit Mem Wk
attribute [local irreducible] Calls Wk.S Wk.C Wk.E Wk.X Wk.T Wk.anV Wk.orV Wk.andV Wk.shlV Wk.shrV Calm.wpLex
def hdX (x side : Int) : Int := if side = 0 then nextX x side else if side = 3 then nextX x side else x
def hdY (y side : Int) : Int := if side = 0 then nextY y side else if side = 3 then nextY y side else y
def hdS (side : Int) : Bool := decide (side = 0) || decide (side = 2)
set_option maxRecDepth 100000 in
set_option maxHeartbeats 400000 in
theorem hurdleAt_any (x y side : Int) (w : World) (hx : -127 ≤ x ∧ x ≤ 126) (hy : -127 ≤ y ∧ y ≤ 126) :
    Calls Try.prog 219 #[.agg #[.int .i8 x, .int .i8 y], .int .i64 side] w fun e w' => e = .returned (.agg #[.int .i8 (hdX x side), .int .i8 (hdY y side), .bool (hdS side)]) ∧ Below w.heap.size w w' := by
  refine enter2 Try.func219 rfl rfl rfl (Own.start w) ?_
  repeat' (first
    | (refine s_g ?_; first
      | (refine s_gd rfl ?_; first | refine s_gd1 rfl rfl zTr ?_ | refine s_gd0 rfl rfl rfl zTr ?_ | refine s_gd00 rfl rfl zTr ?_ | refine s_gp1 rfl rfl rfl (fun hc => ?_) (fun hc => ?_) | refine s_gp0 rfl rfl rfl (fun hc => ?_) (fun hc => ?_) | refine s_gnp1 rfl rfl rfl (fun hc => ?_) (fun hc => ?_) | refine s_gnp0 rfl rfl rfl (fun hc => ?_) (fun hc => ?_) | refine s_gb1 rfl rfl rfl (fun hc => ?_) (fun hc => ?_) | refine s_gb0 rfl rfl rfl (fun hc => ?_) (fun hc => ?_) | refine s_gnb1 rfl rfl rfl (fun hc => ?_) (fun hc => ?_) | refine s_gnb0 rfl rfl rfl (fun hc => ?_) (fun hc => ?_))
      | (refine s_k 0 rfl ?_; refine s_val rfl rfl rfl (r_move rfl rfl) ?_)
      | (refine s_k 8 rfl ?_; first | (refine' s_val rfl rfl rfl (r_ldv rfl rfl ?qm ?qv) ?_; (case qm => (exact zMm)); (case qv => (exact zLe))) | (refine' s_val rfl rfl rfl (r_ldo rfl rfl ?qw (by simp) ?qv) ?_; (case qw => assumption); (case qv => (exact zLe))))
      | (refine s_k 13 rfl ?_; refine s_val rfl rfl rfl (r_eql rfl rfl rfl) ?_)
      | (refine s_k 35 rfl ?_; (refine s_call Try.func211 (by kernel_rfl) rfl rfl rfl rfl rfl rfl (fun w hL => ahead_any _ _ _ _ hx hy) ?_))
      | (refine s_k 2 rfl ?_; first | refine s_val rfl rfl rfl (r_pick1 rfl rfl zTr rfl) ?_ | refine s_val rfl rfl rfl (r_pick0 rfl rfl zTr rfl) ?_)
      | (refine s_k 4 rfl ?_; first | refine s_boxA rfl rfl rfl rfl rfl fun blk => ?_ | refine s_box1 rfl rfl rfl rfl rfl rfl fun blk => ?_)
      | (refine s_k 9 rfl ?_; (first | refine s_st1 tb rfl rfl rfl rfl rfl rfl rfl rfl ?_ | refine s_stA tb rfl rfl rfl rfl (by first | rfl | assumption | (apply Pv.size; assumption)) rfl rfl ?_); (first | refine' st0 ?qs ?_ | refine' st1 ?qs ?_ | refine' st2 ?qs ?_ | refine' st3 ?qs ?_ | refine' st4 ?qs ?_ | refine' st5 ?qs ?_ | refine' st6 ?qs ?_ | refine' st7 ?qs ?_ | refine' st8 ?qs ?_ | refine' st9 ?qs ?_ | refine' st10 ?qs ?_ | refine' st11 ?qs ?_); (case qs => (first | exact zSet)))
      | (refine s_k 3 rfl ?_; refine s_allocA (t := 175) rfl zImplHurdle rfl rfl rfl fun blk => ?_)
      | (refine s_k 5 rfl ?_; refine s_val rfl rfl rfl (r_build rfl rfl (fun w => bHurdle _ _ _ rfl w)) ?_)
      | refine s_nil ?_)
    | (refine c_g ?_; first | refine c_seq ?_ | refine c_region ?_ | (refine c_gc ?_; first | refine c_cond1 rfl zTr ?_ | refine c_cond0 rfl zTr ?_ | refine z_condd1 rfl ?_ | refine z_condd0 rfl ?_ | refine z_conddn1 rfl ?_ | refine z_conddn0 rfl ?_ | refine c_condd rfl (fun hc => ?_) (fun hc => ?_) | refine c_conddn rfl (fun hc => ?_) (fun hc => ?_) | refine c_condn rfl (fun hc => ?_) (fun hc => ?_) | refine c_cond rfl (fun hc => ?_) (fun hc => ?_)) | refine c_block ?_ | refine c_skip ?_ | refine c_exit ?_ | refine c_ret ?_)
    | (refine e_g ?_; first | refine e_then ?_ | refine e_blkn ?_ | refine e_thenx ?_ | refine e_thenr ?_ | refine e_blkr ?_ | refine e_blkx ?_ | refine e_blky rfl ?_)
    | (refine e_ret1 (by simp) rfl (re_cell tb rfl m0 rfl rfl) fun w hL => ⟨?_, hL.toBelow⟩))
  all_goals (simp [hdX, hdY, hdS, *]; done)
def standB (p : Nat → Int) (x y : Int) (s : Bool) : Bool := if s then bitB (p (112 + y.toNat)) x else bitB (p (102 + y.toNat)) x
set_option maxRecDepth 100000 in
set_option maxHeartbeats 400000 in
theorem stands_any (p : Nat → Int) (cs : Array Value) (x y : Int) (s : Bool) (w : World) (hp : Pv p cs) (hx : 0 ≤ x ∧ x < 10) (hy : 0 ≤ y ∧ y < 10) :
    Calls Try.prog 242 #[.agg cs, .agg #[.int .i8 x, .int .i8 y, .bool s]] w fun e w' => e = .returned (.bool (standB p x y s)) ∧ Below w.heap.size w w' := by
  refine enter2 Try.func242 rfl rfl rfl (Own.start w) ?_
  repeat' (first
    | (refine s_g ?_; first
      | (refine s_k 23 rfl ?_; first | refine s_val rfl rfl rfl (r_field tb rfl rfl rfl) ?_ | refine s_val rfl rfl rfl (r_fieldS tb rfl rfl rfl) ?_)
      | (refine s_k 8 rfl ?_; first | (refine' s_val rfl rfl rfl (r_ldv rfl rfl ?qm ?qv) ?_; (case qm => (exact zMm)); (case qv => (first | exact ldvL tb rfl rfl | exact ldv1 tb rfl (by assumption) | exact ldv1 tb rfl (hp.eastA (by omega) (by omega)) | exact ldv1 tb rfl (hp.southA (by omega) (by omega)) | exact zLd))) | (refine' s_val rfl rfl rfl (r_ldo rfl rfl ?qw (by simp) ?qv) ?_; (case qw => assumption); (case qv => (first | exact ldvL tb rfl rfl | exact ldv1 tb rfl (by assumption) | exact ldv1 tb rfl (hp.eastA (by omega) (by omega)) | exact ldv1 tb rfl (hp.southA (by omega) (by omega)) | exact zLd))))
      | (refine s_k 1 rfl ?_; refine s_val rfl rfl rfl (r_assign rfl rfl) ?_)
      | (refine s_k 13 rfl ?_; first | refine s_val rfl rfl rfl (r_eql rfl rfl rfl) ?_ | refine s_val rfl rfl rfl (r_and rfl rfl rfl) ?_ | refine s_val rfl rfl rfl (r_shr rfl rfl rfl (by omega)) ?_)
      | (refine s_k 25 rfl ?_; first | refine s_val rfl rfl rfl (r_ixN tb rfl rfl rfl rfl (by omega)) ?_ | refine s_val rfl rfl rfl (r_ixA tb rfl rfl rfl rfl (by omega) (by omega)) ?_ | refine s_val rfl rfl rfl (r_ixO tb rfl rfl rfl rfl (by omega)) ?_)
      | (refine s_k 4 rfl ?_; first | refine s_boxA rfl rfl rfl rfl rfl fun blk => ?_ | refine s_box1 rfl rfl rfl rfl rfl rfl fun blk => ?_)
      | refine s_nil ?_)
    | (refine c_g ?_; first | refine c_seq ?_ | refine c_region ?_ | (refine c_gc ?_; first | refine c_cond1 rfl zTr ?_ | refine c_cond0 rfl zTr ?_ | refine z_condd1 rfl ?_ | refine z_condd0 rfl ?_ | refine z_conddn1 rfl ?_ | refine z_conddn0 rfl ?_ | refine c_condd rfl (fun hc => ?_) (fun hc => ?_) | refine c_conddn rfl (fun hc => ?_) (fun hc => ?_) | refine c_condn rfl (fun hc => ?_) (fun hc => ?_) | refine c_cond rfl (fun hc => ?_) (fun hc => ?_)) | refine c_block ?_ | refine c_skip ?_ | refine c_exit ?_ | refine c_ret ?_)
    | (refine e_g ?_; first | refine e_then ?_ | refine e_blkn ?_ | refine e_thenx ?_ | refine e_thenr ?_ | refine e_blkr ?_ | refine e_blkx ?_ | refine e_blky rfl ?_)
    | (refine x_g ?_; first
      | (refine x_k 23 rfl ?_; first | (refine x_val rfl rfl rfl (r_field tb rfl rfl rfl) ?hp ?_; (case hp => exact rfl)) | (refine x_val rfl rfl rfl (r_fieldS tb rfl rfl rfl) ?hp ?_; (case hp => exact rfl)))
      | (refine x_k 8 rfl ?_; first | (refine' x_val rfl rfl rfl (r_ldv rfl rfl ?qm ?qv) ?hp ?_; (case qm => (exact zMm)); (case qv => (first | exact ldvL tb rfl rfl | exact ldv1 tb rfl (by assumption) | exact ldv1 tb rfl (hp.eastA (by omega) (by omega)) | exact ldv1 tb rfl (hp.southA (by omega) (by omega)) | exact zLd)); (case hp => exact rfl)) | (refine' x_val rfl rfl rfl (r_ldo rfl rfl ?qw (by simp) ?qv) ?hp ?_; (case qw => assumption); (case qv => (first | exact ldvL tb rfl rfl | exact ldv1 tb rfl (by assumption) | exact ldv1 tb rfl (hp.eastA (by omega) (by omega)) | exact ldv1 tb rfl (hp.southA (by omega) (by omega)) | exact zLd)); (case hp => exact rfl)))
      | (refine x_k 1 rfl ?_; (refine x_val rfl rfl rfl (r_assign rfl rfl) ?hp ?_; (case hp => exact rfl)))
      | (refine x_k 13 rfl ?_; first | (refine x_val rfl rfl rfl (r_eql rfl rfl rfl) ?hp ?_; (case hp => exact rfl)) | (refine x_val rfl rfl rfl (r_and rfl rfl rfl) ?hp ?_; (case hp => exact rfl)) | (refine x_val rfl rfl rfl (r_shr rfl rfl rfl (by omega)) ?hp ?_; (case hp => exact rfl)))
      | (refine x_k 25 rfl ?_; first | (refine x_val rfl rfl rfl (r_ixN tb rfl rfl rfl rfl (by omega)) ?hp ?_; (case hp => exact rfl)) | (refine x_val rfl rfl rfl (r_ixA tb rfl rfl rfl rfl (by omega) (by omega)) ?hp ?_; (case hp => exact rfl)) | (refine x_val rfl rfl rfl (r_ixO tb rfl rfl rfl rfl (by omega)) ?hp ?_; (case hp => exact rfl)))
      | (refine x_k 4 rfl ?_; (refine x_boxA rfl rfl rfl rfl rfl ?hp (fun blk => ?_); (case hp => exact rfl)))
      | refine x_nil0 ?_
      | refine x_nil ?_)
    | (refine' c_drawX (id := 2) [(Sum.inl _ : Calm.Plan), (Sum.inl _ : Calm.Plan), (Sum.inl _ : Calm.Plan), (Sum.inl _ : Calm.Plan), (Sum.inl _ : Calm.Plan), (Sum.inl _ : Calm.Plan), (Sum.inl _ : Calm.Plan), (Sum.inl _ : Calm.Plan), (Sum.inl _ : Calm.Plan), (Sum.inl _ : Calm.Plan), (Sum.inl _ : Calm.Plan), (Sum.inl _ : Calm.Plan), (Sum.inl _ : Calm.Plan)] (by kernel_rfl) (by kernel_rfl) (by kernel_rfl) ?_)
    | (refine' c_drawX (id := 3) [(Sum.inl _ : Calm.Plan), (Sum.inl _ : Calm.Plan), (Sum.inl _ : Calm.Plan), (Sum.inl _ : Calm.Plan), (Sum.inl _ : Calm.Plan), (Sum.inl _ : Calm.Plan), (Sum.inl _ : Calm.Plan), (Sum.inl _ : Calm.Plan), (Sum.inl _ : Calm.Plan), (Sum.inl _ : Calm.Plan), (Sum.inl _ : Calm.Plan), (Sum.inl _ : Calm.Plan), (Sum.inl _ : Calm.Plan)] (by kernel_rfl) (by kernel_rfl) (by kernel_rfl) ?_)
    | (refine e_ret1 (by simp) rfl (re_tmp rfl) fun w hL => ⟨?_, hL.toBelow⟩))
  all_goals (simp [standB, bitB, *]; done)
def putP (p : Nat → Int) (x y : Int) (s on : Bool) : Nat → Int := if s then upd p (112 + y.toNat) (rowV (p (112 + y.toNat)) x on) else upd p (102 + y.toNat) (rowV (p (102 + y.toNat)) x on)
end Go.Proofs.Ytpifngdmlmfnhaa
