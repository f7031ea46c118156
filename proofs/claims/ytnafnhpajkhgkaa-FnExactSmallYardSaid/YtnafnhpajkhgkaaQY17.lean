import Derived.Test.YtnafnhpajkhgkaaQY04
import Derived.Test.YtnafnhpajkhgkaaQY05
import Derived.Test.YtnafnhpajkhgkaaQY08
import Derived.Test.YtnafnhpajkhgkaaQY10
import Derived.Test.YtnafnhpajkhgkaaQY12
import Derived.Test.YtnafnhpajkhgkaaQY14
import Derived.Test.YtnafnhpajkhgkaaQY15
import Derived.Test.YtnafnhpajkhgkaaQY16
/- The walk in a region that draws its order and holds callees that make slices. No condition. -/
namespace Go.Proofs.Ytnafnhpajkhgkaa.Wk
set_option linter.unusedVariables false
set_option linter.unusedSimpArgs false
open Go Go.RowKit Mem Calm
variable {P : Program} {n : Nat} {O : List Nat} {w0 : World} {l : List (Nat × Value)} {N L : List (Nat × TypeId × Array Value)} {Q : Exit → Act → World → Prop} {ops : Array Oper} {o : Oper} {rest : List Oper} {k d : Nat} {pl : Nat → CalmB.Plan} {v : Value}
def Y (P : Program) (ops : Array Oper) (Q : Exit → Act → World → Prop) (n : Nat) (O : List Nat) (w0 : World) (pl : Nat → CalmB.Plan) (rest : List Oper) (k : Nat) (l : List (Nat × Value)) (N L : List (Nat × TypeId × Array Value)) : Prop :=
  ∀ a w E, Fr n l a → Kn O w0 w L → Md E N → CalmB.wpLex P ops w.heap.size w pl (fun a' E' => ∀ w', Holds w.heap.size w E' w' → Q .normal a' w') rest k a E
theorem y_val (hg : o.guard = none) (hd : o.dst = some d) (hn : Nat.blt d n = true) (hr : Rn P n O w0 l L o v) (hp : pl k = .inl fun _ => v) (h : Y P ops Q n O w0 pl rest (k + 1) ((d, v) :: l) N L) : Y P ops Q n O w0 pl (o :: rest) k l N L := fun a w E hF hL hE => by
  unfold CalmB.wpLex
  rw [if_pos (by simp [Region.wanted, hg])]
  unfold CalmB.pOp
  rw [hp]
  refine ⟨fun _ _ _ _ => rfl, ⟨[], fun r hr => (by cases hr), fun w' hb _ => ?_⟩, by rw [hd]; exact h _ w E (hF.put hn v) hL hE⟩
  show calmAt P o a w' v
  unfold calmAt; rw [hr a w' hF (Own.ext hL hb)]; exact ⟨rfl, rfl⟩
theorem y_callc {f : FuncId} {fn : Func} {xs : Array Operand} {ts : Array TypeId} {fx : Operand} {caps vs : List Value} (hf : P.funcs[f]? = some fn) (hname : (fn.name == "runtime.NumGoroutine") = false) (hb : fn.body.isSome = true) (hg : o.guard = none) (hd : o.dst = some d) (hn : Nat.blt d n = true)
    (hop : o.op = .call { callee := .value fx, args := xs, argTypes := ts }) (hfx : ev l fx = some (.func (.func f) #[] caps.toArray)) (hargs : evs l xs.toList = some vs)
    (hc : ∀ w, Kn O w0 w L → Calls P f (vs ++ caps).toArray w fun e w' => e = .returned v ∧ Below w.heap.size w w') (hp : pl k = .inl fun _ => v) (h : Y P ops Q n O w0 pl rest (k + 1) ((d, v) :: l) N L) : Y P ops Q n O w0 pl (o :: rest) k l N L := fun a w E hF hL hE => by
  unfold CalmB.wpLex
  rw [if_pos (by simp [Region.wanted, hg])]
  unfold CalmB.pOp
  rw [hp]
  refine ⟨fun _ _ _ _ => rfl, ⟨[], fun r hr => (by cases hr), fun w' hb' _ => ?_⟩, by rw [hd]; exact h _ w E (hF.put hn v) hL hE⟩
  show calmAt P o a w' v
  unfold calmAt
  rw [run_callc hf hname hb hop (hF.eval hfx) (hF.evals hargs) w']
  exact ⟨rfl, hc w' (Own.ext hL hb')⟩
theorem y_call {f : FuncId} {fn : Func} {xs : Array Operand} {ts : Array TypeId} {vs : List Value} (hf : P.funcs[f]? = some fn) (hname : (fn.name == "runtime.NumGoroutine") = false) (hb : fn.body.isSome = true) (hg : o.guard = none) (hd : o.dst = some d) (hn : Nat.blt d n = true)
    (hop : o.op = .call { callee := .value (.func f), args := xs, argTypes := ts }) (hargs : evs l xs.toList = some vs)
    (hc : ∀ w, Kn O w0 w L → Calls P f vs.toArray w fun e w' => e = .returned v ∧ Below w.heap.size w w') (hp : pl k = .inl fun _ => v) (h : Y P ops Q n O w0 pl rest (k + 1) ((d, v) :: l) N L) : Y P ops Q n O w0 pl (o :: rest) k l N L :=
  y_callc (caps := []) hf hname hb hg hd hn hop rfl hargs (fun w hL => by rw [List.append_nil]; exact hc w hL) hp h
theorem ment_arg {f : FuncId} {xs : Array Operand} {ts : Array TypeId} {a : Act} {g off m cap : Nat} {x : Operand} (hop : o.op = .call { callee := .value (.func f), args := xs, argTypes := ts }) (hF : Fr n l a) (hx : x ∈ xs.toList) (hv : ev l x = some (.slice (some ⟨g, off, none⟩) m cap)) : CalmB.Ment o a g :=
  ⟨x, by rw [hop]; simp [Op.operands, Call.operands]; exact .inr (by simpa using hx), off, m, cap, hF.eval hv⟩
/-- What a move, an assignment or an extraction yields. -/
def opV (o : Oper) (a : Act) : Value := match o.op with
  | .move x => a.eval x
  | .assign x => a.eval x
  | .extract x i => (match a.eval x with
    | .tuple vs => vs.getD i undef
    | _ => undef)
  | _ => undef
theorem opV_loc (ops : Array Oper) (o : Oper) : CalmB.Loc ops o (opV o) := fun a d u h => by
  unfold opV
  cases ho : o.op <;> simp only
  case move x => exact CalmB.evalPut h (by rw [ho]; simp [Op.operands])
  case assign x => exact CalmB.evalPut h (by rw [ho]; simp [Op.operands])
  case extract x i => rw [CalmB.evalPut h (by rw [ho]; simp [Op.operands])]
theorem y_opV (hg : o.guard = none) (hd : o.dst = some d) (hn : Nat.blt d n = true) (hv : ∀ a, Fr n l a → opV o a = v) (hr : Rn P n O w0 l L o v) (hp : pl k = .inl (opV o)) (h : Y P ops Q n O w0 pl rest (k + 1) ((d, v) :: l) N L) : Y P ops Q n O w0 pl (o :: rest) k l N L := fun a w E hF hL hE => by
  unfold CalmB.wpLex
  rw [if_pos (by simp [Region.wanted, hg])]
  unfold CalmB.pOp
  rw [hp]
  refine ⟨opV_loc _ _, ⟨[], fun r hr => (by cases hr), fun w' hb _ => ?_⟩, by rw [hd, hv a hF]; exact h _ w E (hF.put hn v) hL hE⟩
  show calmAt P o a w' (opV o a)
  rw [hv a hF]
  unfold calmAt; rw [hr a w' hF (Own.ext hL hb)]; exact ⟨rfl, rfl⟩
theorem y_move {x : Operand} (hg : o.guard = none) (hd : o.dst = some d) (hn : Nat.blt d n = true) (ho : o.op = .move x) (hx : ev l x = some v) (hp : pl k = .inl (opV o)) (h : Y P ops Q n O w0 pl rest (k + 1) ((d, v) :: l) N L) : Y P ops Q n O w0 pl (o :: rest) k l N L :=
  y_opV hg hd hn (fun a hF => by unfold opV; rw [ho]; exact hF.eval hx) (r_move ho hx) hp h
theorem y_assign {x : Operand} (hg : o.guard = none) (hd : o.dst = some d) (hn : Nat.blt d n = true) (ho : o.op = .assign x) (hx : ev l x = some v) (hp : pl k = .inl (opV o)) (h : Y P ops Q n O w0 pl rest (k + 1) ((d, v) :: l) N L) : Y P ops Q n O w0 pl (o :: rest) k l N L :=
  y_opV hg hd hn (fun a hF => by unfold opV; rw [ho]; exact hF.eval hx) (r_assign ho hx) hp h
theorem y_extract {x : Operand} {vs : List Value} {i : Nat} (hg : o.guard = none) (hd : o.dst = some d) (hn : Nat.blt d n = true) (ho : o.op = .extract x i) (hx : ev l x = some (.tuple vs.toArray)) (hv : nth vs i = some v) (hp : pl k = .inl (opV o)) (h : Y P ops Q n O w0 pl rest (k + 1) ((d, v) :: l) N L) : Y P ops Q n O w0 pl (o :: rest) k l N L :=
  y_opV hg hd hn (fun a hF => by unfold opV; rw [ho]; simp only [hF.eval hx]; rw [nth_eq] at hv; simp [Array.getD_eq_getD_getElem?, hv]) (r_extractL ho hx hv) hp h
def MadeS (T : TypeId) (sz : Nat) (cs : List Value) : Value → Nat → TypeId × Array Value → Prop := fun u g x => ∃ m cap, u = .slice (some ⟨g, 0, none⟩) m cap ∧ Ap sz m cap x.2 cs ∧ x.1 = T
/-- A callee that makes a slice. -/
theorem y_callN {f : FuncId} {fn : Func} {xs : Array Operand} {ts : Array TypeId} {vs : List Value} {T : TypeId} {sz m : Nat} {cs : List Value} (hf : P.funcs[f]? = some fn) (hname : (fn.name == "runtime.NumGoroutine") = false) (hb : fn.body.isSome = true) (hg : o.guard = none) (hd : o.dst = some d) (hn : Nat.blt d n = true)
    (hop : o.op = .call { callee := .value (.func f), args := xs, argTypes := ts }) (hargs : evs l xs.toList = some vs) (hc : ∀ w, Kn O w0 w L → Calls P f vs.toArray w (NewS T sz cs w)) (hlen : cs.length = m * sz) (hmx : m ≤ maxLen) (hp : pl k = .inr (MadeS T sz cs))
    (h : ∀ g m cap cur, Ap sz m cap cur cs → Y P ops Q n O w0 pl rest (k + 1) ((d, .slice (some ⟨g, 0, none⟩) m cap) :: l) ((g, T, cur) :: N) L) : Y P ops Q n O w0 pl (o :: rest) k l N L := fun a w E hF hL hE => by
  unfold CalmB.wpLex
  rw [if_pos (by simp [Region.wanted, hg])]
  unfold CalmB.pOp
  rw [hp]
  refine ⟨fun N0 => ⟨.slice (some ⟨N0, 0, none⟩) m m, N0, (T, cs.toArray), Nat.le_refl _, m, m, rfl, ⟨hlen, Nat.le_refl _, hmx, by simp [hlen], by simp [← hlen]⟩, rfl⟩, ⟨[], fun r hr => (by cases hr), fun w' hb' _ => ?_⟩, fun u g x hM hB he => ?_⟩
  · show CalmB.mkAt P o a w' _
    unfold CalmB.mkAt
    rw [run_callc (caps := []) hf hname hb hop rfl (hF.evals hargs) w']
    refine ⟨rfl, ?_⟩
    rw [List.append_nil]
    exact (hc w' (Own.ext hL hb')).mono fun e w'' ⟨g, m, cap, cur, he, hA, hge, hat, hb⟩ => ⟨_, g, (T, cur), ⟨m, cap, rfl, hA, rfl⟩, he, hge, hat, hb⟩
  · obtain ⟨m', cap, rfl, hA, hT⟩ := hM
    obtain ⟨T', cur⟩ := x
    simp only at hT hA
    subst hT
    rw [hd]
    refine h g m' cap cur hA _ w _ (hF.put hn _) hL ⟨?_, fun b hb => ?_⟩
    · simp only [List.map_cons, List.nodup_cons, List.mem_map, not_exists, not_and]
      exact ⟨fun b hb e => (by have := hE.2 b hb; rw [e, he] at this; cases this), hE.1⟩
    · rcases List.mem_cons.1 hb with rfl | hb
      · exact Calm.upd_same _ _ _
      · rw [Calm.upd_ne _ _ (fun e => by have := hE.2 b hb; rw [e, he] at this; cases this)]; exact hE.2 b hb
theorem y_gd1 {dd : Option Tmp} {op : Op} {ty : TypeId} {ps : String} {af : Array Edge} {j : Nat} {b c : Bool} {t : Nat} (hj : (ops[j]?).bind (·.dst) = some t) (ht : lk l t = some (.bool c)) (hc : c = b) (h : Y P ops Q n O w0 pl (⟨dd, op, ty, ps, af, none⟩ :: rest) k l N L) : Y P ops Q n O w0 pl (⟨dd, op, ty, ps, af, some (j, b)⟩ :: rest) k l N L := fun a w E hF hL hE => by
  have h1 := h a w E hF hL hE
  unfold CalmB.wpLex at h1 ⊢
  rw [if_pos (by rfl)] at h1
  rw [if_pos (by simp [Region.wanted, yl hF hj ht, hc])]
  unfold CalmB.pOp at h1 ⊢
  cases hp : pl k with
  | inl vf =>
    rw [hp] at h1
    refine ⟨fun a d u hd => h1.1 a d u fun t ht hm => hd t ht ?_, h1.2⟩
    unfold Oper.looksAt at hm ⊢
    exact List.mem_append.2 (.inl (by simpa using hm))
  | inr M => rw [hp] at h1; exact h1
theorem y_gd0 {op : Op} {ty : TypeId} {ps : String} {af : Array Edge} {j : Nat} {b c : Bool} {t : Nat} (hn : Nat.blt d n = true) (hj : (ops[j]?).bind (·.dst) = some t) (ht : lk l t = some (.bool c)) (hc : c = !b) (hp : pl k = .inl fun _ => undef) (h : Y P ops Q n O w0 pl rest (k + 1) ((d, undef) :: l) N L) : Y P ops Q n O w0 pl (⟨some d, op, ty, ps, af, some (j, b)⟩ :: rest) k l N L := fun a w E hF hL hE => by
  unfold CalmB.wpLex
  rw [if_neg (by simp [Region.wanted, yl hF hj ht, hc])]
  exact h _ w E (hF.put hn undef) hL hE
theorem yu {a : Act} (hF : Fr n l a) {j t : Nat} (hj : (ops[j]?).bind (·.dst) = some t) (ht : lk l t = some undef) : yielded ops a.tmps j = none := by
  unfold yielded
  rw [hj, Option.bind_some, hF.get t _ ht]; rfl
theorem x_gdu {pl : Nat → Calm.Plan} {op : Op} {ty : TypeId} {ps : String} {af : Array Edge} {j : Nat} {b : Bool} {t : Nat} (hn : Nat.blt d n = true) (hj : (ops[j]?).bind (·.dst) = some t) (ht : lk l t = some undef) (hp : pl k = .inl undef) (h : X P ops Q n O w0 pl rest (k + 1) ((d, undef) :: l) N L) : X P ops Q n O w0 pl (⟨some d, op, ty, ps, af, some (j, b)⟩ :: rest) k l N L := fun a w E hF hL hE =>
  lex_skip (o := ⟨some d, op, ty, ps, af, some (j, b)⟩) (by simp [Region.wanted, yu hF hj ht]) (h _ w E (hF.put hn undef) hL hE)
theorem y_nil (h : E Q n O w0 .normal l (N ++ L)) : Y P ops Q n O w0 pl [] k l N L := fun a w E hF hL hE => by
  unfold CalmB.wpLex
  exact fun w' hH => h a w' hF (Kn.join hL hH hE)
theorem y_nil0 (h : E Q n O w0 .normal l L) : Y P ops Q n O w0 pl [] k l [] L := y_nil h
theorem c_drawY {id : Nat} {r : List Oper} (pl : List CalmB.Plan) (hm : P.follows .mixedOrders = true) (hB : Region.lexB .any r.toArray = true) (h : Y P r.toArray Q n O w0 (fun i => pl.getD i (.inl fun _ => undef)) r 0 l [] L) : C P Q n O w0 (.region id r.toArray true) l L := fun a w hF hL =>
  CalmB.wp_region_calm pl hm hB (h a w _ hF hL ⟨by simp, fun _ hb => by cases hb⟩)
theorem y_k (kk : Nat) (ho : opk o.op = kk) (h : Y P ops Q n O w0 pl (o :: rest) k l N L) : Y P ops Q n O w0 pl (o :: rest) k l N L := h
theorem y_gd {q : Nat × Bool} (ho : o.guard = some q) (h : Y P ops Q n O w0 pl (o :: rest) k l N L) : Y P ops Q n O w0 pl (o :: rest) k l N L := h
theorem y_g (h : Y P ops Q n O w0 pl rest k l N L) : Y P ops Q n O w0 pl rest k l N L := h
end Go.Proofs.Ytnafnhpajkhgkaa.Wk
/- Slices built in a region that draws its order; the first of some codes. No condition. -/
namespace Go.Proofs.Ytnafnhpajkhgkaa
set_option linter.unusedVariables false
set_option linter.unusedSimpArgs false
open Go.RowKit Mem Wk
namespace Wk
open Calm
variable {P : Program} {n : Nat} {O : List Nat} {w0 : World} {l : List (Nat × Value)} {N L : List (Nat × TypeId × Array Value)} {Q : Exit → Act → World → Prop} {ops : Array Oper} {o : Oper} {rest : List Oper} {k d : Nat} {pl : Nat → CalmB.Plan} {v : Value}
def BslM (T : TypeId) (len : Nat) (cs : Array Value) : Value → Nat → TypeId × Array Value → Prop := fun u g x => u = .slice (some ⟨g, 0, none⟩) len len ∧ x = (T, cs)
theorem y_bsl {t : TypeId} {len : Nat} {T : TypeId} {cs : Array Value} {parts : Array (Nat × Operand)} {ps : List (Nat × Value)} (ho : o.op = .buildSlice t len parts) (hp : evp l parts.toList = some ps) (hr : ∀ w, (Instr.buildSlice t len ps.toArray).run P w = .ok (.slice (some ⟨w.heap.size, 0, none⟩) len len) (w.alloc (.cells cs T (0, 0))))
    (hg : o.guard = none) (hd : o.dst = some d) (hn : Nat.blt d n = true) (hpl : pl k = .inr (BslM T len cs)) (h : ∀ g, Y P ops Q n O w0 pl rest (k + 1) ((d, .slice (some ⟨g, 0, none⟩) len len) :: l) ((g, T, cs) :: N) L) : Y P ops Q n O w0 pl (o :: rest) k l N L := fun a w E hF hL hE => by
  unfold CalmB.wpLex
  rw [if_pos (by simp [Region.wanted, hg])]
  unfold CalmB.pOp
  rw [hpl]
  refine ⟨fun N0 => ⟨.slice (some ⟨N0, 0, none⟩) len len, N0, (T, cs), Nat.le_refl _, rfl, rfl⟩, ⟨[], fun r hr => (by cases hr), fun w' hb' _ => ?_⟩, fun u g x hM hB he => ?_⟩
  · show CalmB.mkAt P o a w' _
    have e : parts.map (fun p => (p.1, a.eval p.2)) = ps.toArray := by rw [← hF.evp hp]; apply Array.ext'; simp
    have e' : (parts.map fun x => match x with | (i, x) => (i, a.eval x)) = ps.toArray := e
    have hx : (execOp a.eval o).run P w' = .ok (.value (.slice (some ⟨w'.heap.size, 0, none⟩) len len)) (w'.alloc (.cells cs T (0, 0))) := by simp [execOp, ho, e', hr]
    unfold CalmB.mkAt
    rw [hx]
    exact ⟨w'.heap.size, (T, cs), ⟨rfl, rfl⟩, Nat.le_refl _, (Own.new (Own.start w') T cs).has _ (by simp), (Own.new (Own.start w') T cs).toBelow⟩
  · obtain ⟨rfl, rfl⟩ := hM
    rw [hd]
    refine h g _ w _ (hF.put hn _) hL ⟨?_, fun b hb => ?_⟩
    · simp only [List.map_cons, List.nodup_cons, List.mem_map, not_exists, not_and]
      exact ⟨fun b hb e => (by have := hE.2 b hb; rw [e, he] at this; cases this), hE.1⟩
    · rcases List.mem_cons.1 hb with rfl | hb
      · exact Calm.upd_same _ _ _
      · rw [Calm.upd_ne _ _ (fun e => by have := hE.2 b hb; rw [e, he] at this; cases this)]; exact hE.2 b hb
end Wk
attribute [local irreducible] Calls Wk.S Wk.C Wk.E Wk.X Wk.T Wk.Y Calm.wpLex CalmB.wpLex
end Go.Proofs.Ytnafnhpajkhgkaa
/- Tables of flags; a look at the program's table of steps; the cells of a table of flags. No condition. -/
namespace Go.Proofs.Ytnafnhpajkhgkaa
set_option linter.unusedVariables false
set_option linter.unusedSimpArgs false
open Go.RowKit Mem Wk
attribute [local irreducible] Calls Wk.S Wk.C Wk.E Wk.X Wk.T Wk.Y Wk.andV Wk.shrV Calm.wpLex CalmB.wpLex bfsN
/-- A table of 100 flags. -/
structure GB (f : Nat → Bool) (cs : Array Value) : Prop where
  size : cs.size = 100
  get : ∀ j, j < 100 → cs[j]? = some (.bool (f j))
theorem GB.at_ {f : Nat → Bool} {cs : Array Value} (h : GB f cs) {x y : Nat} (hx : x < 10) (hy : y < 10) : cs[0 + y * 10 + x * 1]? = some (.bool (f (ci ⟨(x : Int), (y : Int)⟩))) := by
  have e : 0 + y * 10 + x * 1 = ci ⟨(x : Int), (y : Int)⟩ := by unfold ci; simp
  rw [e]; exact h.get _ (ci_lt ⟨by show (0 : Int) ≤ (x : Int); omega, by show (x : Int) < 10; omega, by show (0 : Int) ≤ (y : Int); omega, by show (y : Int) < 10; omega⟩)
theorem GB.one {f : Nat → Bool} {cs : Array Value} (h : GB f cs) : ∀ u ∈ cs.toList, u.oneCell' = true := by
  intro u hu
  obtain ⟨j, hj⟩ := List.mem_iff_getElem?.1 hu
  rw [Array.getElem?_toList] at hj
  have hlt := (Array.getElem?_eq_some_iff.1 hj).1
  rw [h.size] at hlt
  rw [h.get j hlt] at hj
  injection hj with hj; subst hj; rfl
theorem GB.uniq {f : Nat → Bool} {a b : Array Value} (h : GB f a) (h' : GB f b) : a = b := by
  apply Array.ext (by rw [h.size, h'.size])
  intro i h1 h2
  have e1 := h.get i (by rw [h.size] at h1; exact h1)
  have e2 := h'.get i (by rw [h'.size] at h2; exact h2)
  rw [Array.getElem?_eq_getElem h1] at e1
  rw [Array.getElem?_eq_getElem h2] at e2
  injection e1 with e1; injection e2 with e2; rw [e1, e2]
theorem GB.congr {f g : Nat → Bool} {cs : Array Value} (h : GB f cs) (he : ∀ j, j < 100 → f j = g j) : GB g cs := ⟨h.size, fun j hj => by rw [← he j hj]; exact h.get j hj⟩
theorem setB {f : Nat → Bool} {c cs : Array Value} (h : GB f cs) (hc : c.size = 100) : Wk.Set c 0 cs cs := set_whole (by rw [h.size, hc]) h.one
def gbA (f : Nat → Bool) : Array Value := ((List.range 100).map fun j => Value.bool (f j)).toArray
theorem gbA_ok (f : Nat → Bool) : GB f (gbA f) := ⟨by simp [gbA], fun j hj => by simp [gbA, hj]⟩
def zFl : Array Value := (List.replicate 100 (Value.bool false)).toArray
theorem zFl_ok : GB (fun _ => false) zFl := ⟨by kernel_rfl, fun j hj => by
  show (List.replicate 100 (Value.bool false)).toArray[j]? = _
  rw [List.getElem?_toArray, List.getElem?_replicate, if_pos hj]⟩
theorem zF1010 : (Try.prog.info? 90).map (·.zero) = some (some (.agg zFl)) := by kernel_rfl
theorem bF1010 (w : World) : (Instr.build 90 #[]).run Try.prog w = .ok (.agg zFl) w := by kernel_rfl
/-- the first n places of a table of flags -/
def upto (f : Nat → Bool) (n : Nat) : Nat → Bool := fun j => decide (j < n) && f j
theorem GB.put {f : Nat → Bool} {cs : Array Value} {x y : Nat} {b : Bool} (h : GB (upto f (y * 10 + x)) cs) (hx : x < 10) (hy : y < 10) (hb : b = f (ci ⟨(x : Int), (y : Int)⟩)) : GB (upto f (y * 10 + (x + 1))) (cs.setIfInBounds (0 + y * 10 + x * 1) (.bool b)) := by
  have e : 0 + y * 10 + x * 1 = y * 10 + x := by omega
  have e2 : ci ⟨(x : Int), (y : Int)⟩ = y * 10 + x := by unfold ci; simp
  rw [e]; rw [e2] at hb; subst hb
  refine ⟨by simp [h.size], fun j hj => ?_⟩
  by_cases ej : j = y * 10 + x
  · subst ej
    have hs := h.size
    simp [hs, hj, upto]
  · rw [Array.getElem?_setIfInBounds_ne (by omega), h.get j hj]
    show some (Value.bool (decide (j < y * 10 + x) && f j)) = some (Value.bool (decide (j < y * 10 + (x + 1)) && f j))
    rw [show decide (j < y * 10 + x) = decide (j < y * 10 + (x + 1)) from decide_eq_decide.2 (by omega)]
/-- Two results: a slice that the callee has made, and a code. -/
def NewS2 (T : TypeId) (sz : Nat) (xs : List Value) (c : Int) (w : World) (e : Ending) (w' : World) : Prop := ∃ g k cap cur, e = .returned (.tuple #[.slice (some ⟨g, 0, none⟩) k cap, .int .i64 c]) ∧ Ap sz k cap cur xs ∧ w.heap.size ≤ g ∧ w'.heap[g]? = some (.cells cur T (0, 0)) ∧ Below w.heap.size w w'
theorem NewS2.of {T : TypeId} {sz k cap g : Nat} {c : Int} {xs : List Value} {cur : Array Value} {w0 w : World} {L : List (Nat × TypeId × Array Value)} (hA : Ap sz k cap cur xs) (hL : Kn [] w0 w L) (hm : (g, T, cur) ∈ L) : NewS2 T sz xs c w0 (.returned (.tuple #[.slice (some ⟨g, 0, none⟩) k cap, .int .i64 c])) w :=
  ⟨g, k, cap, cur, rfl, hA, (hL.low _ hm).resolve_right (by simp), hL.has _ hm, hL.toBelow⟩
end Go.Proofs.Ytnafnhpajkhgkaa
/- Cells within steps: both functions. No condition. -/
namespace Go.Proofs.Ytnafnhpajkhgkaa
set_option linter.unusedVariables false
set_option linter.unusedSimpArgs false
open Go.RowKit Mem Wk
attribute [local irreducible] Calls Wk.S Wk.C Wk.E Wk.X Wk.T Wk.Y Wk.andV Wk.shrV Calm.wpLex CalmB.wpLex bfsN
/-- wide and high of a pasture that has a cell -/
theorem dims {p : Nat → Int} {x y : Int} (ha : p 0 ≤ 10) (hb : p 1 ≤ 10) (hc : isC (p 0) (p 1) x y = true) : p 0 = ((p 0).toNat : Int) ∧ p 1 = ((p 1).toNat : Int) ∧ (p 0).toNat ≤ 10 ∧ (p 1).toNat ≤ 10 := by
  unfold isC inB at hc; simp at hc; omega
/-- the cells of a pasture for which something holds -/
def pasL (p : Nat → Int) (f : Sp → Bool) : List Sp := cellL f (p 0).toNat ((p 1).toNat * (p 0).toNat)
def strD (p : Nat → Int) (o : Sp) : Nat → Int := (stepsP p [o]).1
theorem strD_val (p : Nat → Int) {o : Sp} (h : inR o) (j : Nat) : 0 ≤ strD p o j ∧ strD p o j ≤ 101 := stepsP_val p (fun c hc => by simp at hc; subst hc; exact h) j
end Go.Proofs.Ytnafnhpajkhgkaa
/- The yard of a cell, the cells reached from a stake, the grass of cells: the program's. No condition. -/
namespace Go.Proofs.Ytnafnhpajkhgkaa
set_option linter.unusedVariables false
set_option linter.unusedSimpArgs false
open Go.RowKit Mem Wk
attribute [local irreducible] Calls Wk.S Wk.C Wk.E Wk.X Wk.T Wk.Y Wk.andV Wk.shrV Calm.wpLex CalmB.wpLex bfsN
theorem Wk.BelowX.blk {g : Nat} {w w' : World} (h : BelowX g w w') {k : Nat} {ob : Obj} (hk : w.heap[k]? = some ob) (hne : k ≠ g) : w'.heap[k]? = some ob := by
  rw [h.block k (Array.getElem?_eq_some_iff.1 hk).1 hne]; exact hk
def yardF (p : Nat → Int) (o c : Sp) : Bool := decide (0 ≤ strD p o (ci c) - 1)
def yardL (p : Nat → Int) (o : Sp) : List Sp := pasL p (yardF p o)
theorem pasL_isC {p : Nat → Int} {f : Sp → Bool} {c : Sp} (ha : p 0 ≤ 10) (hb : p 1 ≤ 10) (h : c ∈ pasL p f) : isC (p 0) (p 1) c.x c.y = true ∧ f c = true := by
  have hm := cellL_mem h
  refine ⟨?_, hm.1⟩
  unfold isC inB
  simp
  omega
end Go.Proofs.Ytnafnhpajkhgkaa
/- Stakes: validity. No condition. -/
namespace Go.Proofs.Ytnafnhpajkhgkaa
set_option linter.unusedVariables false
set_option linter.unusedSimpArgs false
open Go.RowKit Mem
attribute [local irreducible] Calm.wpLex
theorem Mem.Own.tail {B : Nat} {w0 w : World} {x : Nat × TypeId × Array Value} {L : List (Nat × TypeId × Array Value)} (h : Own B [] w0 w (x :: L)) : Own B [] w0 w L :=
  h.drop 1 (fun y hy => by
    have : y ∈ x :: L := List.mem_of_mem_take hy
    rcases h.low y this with e | e
    · exact e
    · cases e)
theorem Sl.take {w : World} {sz : Nat} {A : Option Addr} {n cap : Nat} {xs : List (List Value)} (h : Sl w sz (.slice A n cap) xs) (k : Nat) (hk : k ≤ xs.length) : Sl w sz (.slice A k cap) (xs.take k) := by
  obtain ⟨A', cap', hv, h1, h2, h3⟩ := h
  injection hv with e1 e2 e3
  subst e1; subst e3
  refine ⟨A, cap, ?_, by rw [List.length_take]; omega, h2, fun i c hc => ?_⟩
  · rw [List.length_take, Nat.min_eq_left hk]
  · rw [List.getElem?_take] at hc
    split at hc
    · exact h3 i c hc
    · cases hc

end Go.Proofs.Ytnafnhpajkhgkaa
/- Goats: what makes one valid. No condition. -/
namespace Go.Proofs.Ytnafnhpajkhgkaa
set_option linter.unusedVariables false
set_option linter.unusedSimpArgs false
open Go.RowKit Mem
attribute [local irreducible] Calm.wpLex
/-- cells that lie from here on -/
def CellsAt (w : World) (b off : Nat) (c : List Value) : Prop := ∀ (j : Nat) (u : Value), c[j]? = some u → w.cell? ⟨b, off + j, none⟩ = some u
theorem CellsAt.below {w w' : World} {b off : Nat} {c : List Value} (h : CellsAt w b off c) (hb : Below w.heap.size w w') : CellsAt w' b off c := fun j u hu => by
  rw [hb.cell (p := ⟨b, off + j, none⟩) (World.block_lt_of_cell? w _ (h j u hu))]; exact h j u hu
theorem CellsAt.part {w : World} {b off : Nat} {c : List Value} (h : CellsAt w b off c) (k : Nat) {d : List Value} (hd : ∀ (j : Nat) (u : Value), d[j]? = some u → c[k + j]? = some u) : CellsAt w b (off + k) d := fun j u hu => by
  rw [Nat.add_assoc]; exact h _ _ (hd j u hu)
theorem Gt.at_ (g : Gt) : ∀ (j : Nat) (u : Value), (Sp.mk g.x g.y).cells[j]? = some u → g.cells[0 + j]? = some u := fun j u hu => by
  rcases j with _ | _ | j
  · exact hu
  · exact hu
  · cases hu
end Go.Proofs.Ytnafnhpajkhgkaa
