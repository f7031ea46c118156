import Derived.Test.YtnafnhpajkhgkaaQW13
import Derived.Test.YtnafnhpajkhgkaaQW21
/- The walk in a region that draws its order and holds callees that make slices. No condition. -/
namespace Go.Proofs.Ytnafnhpajkhgkaa.Wk
set_option linter.unusedVariables false
set_option linter.unusedSimpArgs false
open Go Go.RowKit Mem Calm
variable {P : Program} {n : Nat} {O : List Nat} {w0 : World} {l : List (Nat × Value)} {N L : List (Nat × TypeId × Array Value)} {Q : Exit → Act → World → Prop} {ops : Array Oper} {o : Oper} {rest : List Oper} {k d : Nat} {pl : Nat → CalmB.Plan} {v : Value}
def Y (P : Program) (ops : Array Oper) (Q : Exit → Act → World → Prop) (n : Nat) (O : List Nat) (w0 : World) (pl : Nat → CalmB.Plan) (rest : List Oper) (k : Nat) (l : List (Nat × Value)) (N L : List (Nat × TypeId × Array Value)) : Prop :=
  ∀ a w E, Fr n l a → Kn O w0 w L → Md E N → CalmB.wpLex P ops w.heap.size w pl (fun a' E' => ∀ w', Holds w.heap.size w E' w' → Q .normal a' w') rest k a E
theorem y_val (hg : o.guard = none) (hd : o.dst = some d) (hn : Nat.blt d n = true) (hr : Rn P n O w0 l L o v) (hp : pl k = .inl fun _ => v) (h : Y P ops Q n O w0 pl rest (k + 1) ((d, v) :: l) N L) : Y P ops Q n O w0 pl (o :: rest) k l N L := fun a w E hF hL hE => by
  unfold CalmB.wpLex
  rw [if_pos (by simp [Region.wanted, hg])]
  unfold CalmB.pOp
  rw [hp]
  refine ⟨fun _ _ _ _ => rfl, ⟨[], fun r hr => (by cases hr), fun w' hb _ => ?_⟩, by rw [hd]; exact h _ w E (hF.put hn v) hL hE⟩
  show calmAt P o a w' v
  unfold calmAt; rw [hr a w' hF (Own.ext hL hb)]; exact ⟨rfl, rfl⟩
theorem y_callc {f : FuncId} {fn : Func} {xs : Array Operand} {ts : Array TypeId} {fx : Operand} {caps vs : List Value} (hf : P.funcs[f]? = some fn) (hname : (fn.name == "runtime.NumGoroutine") = false) (hb : fn.body.isSome = true) (hg : o.guard = none) (hd : o.dst = some d) (hn : Nat.blt d n = true)
    (hop : o.op = .call { callee := .value fx, args := xs, argTypes := ts }) (hfx : ev l fx = some (.func (.func f) #[] caps.toArray)) (hargs : evs l xs.toList = some vs)
    (hc : ∀ w, Kn O w0 w L → Calls P f (vs ++ caps).toArray w fun e w' => e = .returned v ∧ Below w.heap.size w w') (hp : pl k = .inl fun _ => v) (h : Y P ops Q n O w0 pl rest (k + 1) ((d, v) :: l) N L) : Y P ops Q n O w0 pl (o :: rest) k l N L := fun a w E hF hL hE => by
  unfold CalmB.wpLex
  rw [if_pos (by simp [Region.wanted, hg])]
  unfold CalmB.pOp
  rw [hp]
  refine ⟨fun _ _ _ _ => rfl, ⟨[], fun r hr => (by cases hr), fun w' hb' _ => ?_⟩, by rw [hd]; exact h _ w E (hF.put hn v) hL hE⟩
  show calmAt P o a w' v
  unfold calmAt
  rw [run_callc hf hname hb hop (hF.eval hfx) (hF.evals hargs) w']
  exact ⟨rfl, hc w' (Own.ext hL hb')⟩
theorem y_call {f : FuncId} {fn : Func} {xs : Array Operand} {ts : Array TypeId} {vs : List Value} (hf : P.funcs[f]? = some fn) (hname : (fn.name == "runtime.NumGoroutine") = false) (hb : fn.body.isSome = true) (hg : o.guard = none) (hd : o.dst = some d) (hn : Nat.blt d n = true)
    (hop : o.op = .call { callee := .value (.func f), args := xs, argTypes := ts }) (hargs : evs l xs.toList = some vs)
    (hc : ∀ w, Kn O w0 w L → Calls P f vs.toArray w fun e w' => e = .returned v ∧ Below w.heap.size w w') (hp : pl k = .inl fun _ => v) (h : Y P ops Q n O w0 pl rest (k + 1) ((d, v) :: l) N L) : Y P ops Q n O w0 pl (o :: rest) k l N L :=
  y_callc (caps := []) hf hname hb hg hd hn hop rfl hargs (fun w hL => by rw [List.append_nil]; exact hc w hL) hp h
theorem ment_arg {f : FuncId} {xs : Array Operand} {ts : Array TypeId} {a : Act} {g off m cap : Nat} {x : Operand} (hop : o.op = .call { callee := .value (.func f), args := xs, argTypes := ts }) (hF : Fr n l a) (hx : x ∈ xs.toList) (hv : ev l x = some (.slice (some ⟨g, off, none⟩) m cap)) : CalmB.Ment o a g :=
  ⟨x, by rw [hop]; simp [Op.operands, Call.operands]; exact .inr (by simpa using hx), off, m, cap, hF.eval hv⟩
/-- A callee that reads what another one has made. -/
theorem y_rd {f : FuncId} {fn : Func} {xs : Array Operand} {ts : Array TypeId} {vs : List Value} {g off m cap : Nat} {T : TypeId} {cs : Array Value} {x : Operand} (hf : P.funcs[f]? = some fn) (hname : (fn.name == "runtime.NumGoroutine") = false) (hb : fn.body.isSome = true) (hg : o.guard = none) (hd : o.dst = some d) (hn : Nat.blt d n = true)
    (hop : o.op = .call { callee := .value (.func f), args := xs, argTypes := ts }) (hargs : evs l xs.toList = some vs) (hm : (g, T, cs) ∈ N) (hx : x ∈ xs.toList) (hv : ev l x = some (.slice (some ⟨g, off, none⟩) m cap))
    (hc : ∀ w, Kn O w0 w ((g, T, cs) :: L) → Calls P f vs.toArray w fun e w' => e = .returned v ∧ Below w.heap.size w w') (hp : pl k = .inl fun _ => v) (h : Y P ops Q n O w0 pl rest (k + 1) ((d, v) :: l) N L) : Y P ops Q n O w0 pl (o :: rest) k l N L := fun a w E hF hL hE => by
  unfold CalmB.wpLex
  rw [if_pos (by simp [Region.wanted, hg])]
  unfold CalmB.pOp
  rw [hp]
  refine ⟨fun _ _ _ _ => rfl, ⟨[(g, T, cs)], fun r hr => ?_, fun w' hb' hR => ?_⟩, by rw [hd]; exact h _ w E (hF.put hn v) hL hE⟩
  · have e : r = (g, T, cs) := by simpa using hr
    subst e
    exact ⟨ment_arg hop hF hx hv, hE.2 _ hm⟩
  · show calmAt P o a w' v
    obtain ⟨hB, hH⟩ := hR _ (List.mem_singleton.2 rfl)
    unfold calmAt
    rw [run_callc (caps := []) hf hname hb hop rfl (hF.evals hargs) w']
    refine ⟨rfl, ?_⟩
    rw [List.append_nil]
    exact hc w' (Kn.add (Own.ext hL hb') (Nat.le_trans hL.size hB) (fun y hy => by
      have := (Array.getElem?_eq_some_iff.1 (hL.has y hy)).1
      have hB' : w.heap.size ≤ g := hB
      omega) hH)
/-- What a move, an assignment or an extraction yields. -/
def opV (o : Oper) (a : Act) : Value := match o.op with
  | .move x => a.eval x
  | .assign x => a.eval x
  | .extract x i => (match a.eval x with
    | .tuple vs => vs.getD i undef
    | _ => undef)
  | _ => undef
theorem opV_loc (ops : Array Oper) (o : Oper) : CalmB.Loc ops o (opV o) := fun a d u h => by
  unfold opV
  cases ho : o.op <;> simp only
  case move x => exact CalmB.evalPut h (by rw [ho]; simp [Op.operands])
  case assign x => exact CalmB.evalPut h (by rw [ho]; simp [Op.operands])
  case extract x i => rw [CalmB.evalPut h (by rw [ho]; simp [Op.operands])]
theorem y_opV (hg : o.guard = none) (hd : o.dst = some d) (hn : Nat.blt d n = true) (hv : ∀ a, Fr n l a → opV o a = v) (hr : Rn P n O w0 l L o v) (hp : pl k = .inl (opV o)) (h : Y P ops Q n O w0 pl rest (k + 1) ((d, v) :: l) N L) : Y P ops Q n O w0 pl (o :: rest) k l N L := fun a w E hF hL hE => by
  unfold CalmB.wpLex
  rw [if_pos (by simp [Region.wanted, hg])]
  unfold CalmB.pOp
  rw [hp]
  refine ⟨opV_loc _ _, ⟨[], fun r hr => (by cases hr), fun w' hb _ => ?_⟩, by rw [hd, hv a hF]; exact h _ w E (hF.put hn v) hL hE⟩
  show calmAt P o a w' (opV o a)
  rw [hv a hF]
  unfold calmAt; rw [hr a w' hF (Own.ext hL hb)]; exact ⟨rfl, rfl⟩
theorem y_move {x : Operand} (hg : o.guard = none) (hd : o.dst = some d) (hn : Nat.blt d n = true) (ho : o.op = .move x) (hx : ev l x = some v) (hp : pl k = .inl (opV o)) (h : Y P ops Q n O w0 pl rest (k + 1) ((d, v) :: l) N L) : Y P ops Q n O w0 pl (o :: rest) k l N L :=
  y_opV hg hd hn (fun a hF => by unfold opV; rw [ho]; exact hF.eval hx) (r_move ho hx) hp h
theorem y_assign {x : Operand} (hg : o.guard = none) (hd : o.dst = some d) (hn : Nat.blt d n = true) (ho : o.op = .assign x) (hx : ev l x = some v) (hp : pl k = .inl (opV o)) (h : Y P ops Q n O w0 pl rest (k + 1) ((d, v) :: l) N L) : Y P ops Q n O w0 pl (o :: rest) k l N L :=
  y_opV hg hd hn (fun a hF => by unfold opV; rw [ho]; exact hF.eval hx) (r_assign ho hx) hp h
theorem y_extract {x : Operand} {vs : List Value} {i : Nat} (hg : o.guard = none) (hd : o.dst = some d) (hn : Nat.blt d n = true) (ho : o.op = .extract x i) (hx : ev l x = some (.tuple vs.toArray)) (hv : nth vs i = some v) (hp : pl k = .inl (opV o)) (h : Y P ops Q n O w0 pl rest (k + 1) ((d, v) :: l) N L) : Y P ops Q n O w0 pl (o :: rest) k l N L :=
  y_opV hg hd hn (fun a hF => by unfold opV; rw [ho]; simp only [hF.eval hx]; rw [nth_eq] at hv; simp [Array.getD_eq_getD_getElem?, hv]) (r_extractL ho hx hv) hp h
def MadeS (T : TypeId) (sz : Nat) (cs : List Value) : Value → Nat → TypeId × Array Value → Prop := fun u g x => ∃ m cap, u = .slice (some ⟨g, 0, none⟩) m cap ∧ Ap sz m cap x.2 cs ∧ x.1 = T
/-- A callee that makes a slice. -/
theorem y_callN {f : FuncId} {fn : Func} {xs : Array Operand} {ts : Array TypeId} {vs : List Value} {T : TypeId} {sz m : Nat} {cs : List Value} (hf : P.funcs[f]? = some fn) (hname : (fn.name == "runtime.NumGoroutine") = false) (hb : fn.body.isSome = true) (hg : o.guard = none) (hd : o.dst = some d) (hn : Nat.blt d n = true)
    (hop : o.op = .call { callee := .value (.func f), args := xs, argTypes := ts }) (hargs : evs l xs.toList = some vs) (hc : ∀ w, Kn O w0 w L → Calls P f vs.toArray w (NewS T sz cs w)) (hlen : cs.length = m * sz) (hmx : m ≤ maxLen) (hp : pl k = .inr (MadeS T sz cs))
    (h : ∀ g m cap cur, Ap sz m cap cur cs → Y P ops Q n O w0 pl rest (k + 1) ((d, .slice (some ⟨g, 0, none⟩) m cap) :: l) ((g, T, cur) :: N) L) : Y P ops Q n O w0 pl (o :: rest) k l N L := fun a w E hF hL hE => by
  unfold CalmB.wpLex
  rw [if_pos (by simp [Region.wanted, hg])]
  unfold CalmB.pOp
  rw [hp]
  refine ⟨fun N0 => ⟨.slice (some ⟨N0, 0, none⟩) m m, N0, (T, cs.toArray), Nat.le_refl _, m, m, rfl, ⟨hlen, Nat.le_refl _, hmx, by simp [hlen], by simp [← hlen]⟩, rfl⟩, ⟨[], fun r hr => (by cases hr), fun w' hb' _ => ?_⟩, fun u g x hM hB he => ?_⟩
  · show CalmB.mkAt P o a w' _
    unfold CalmB.mkAt
    rw [run_callc (caps := []) hf hname hb hop rfl (hF.evals hargs) w']
    refine ⟨rfl, ?_⟩
    rw [List.append_nil]
    exact (hc w' (Own.ext hL hb')).mono fun e w'' ⟨g, m, cap, cur, he, hA, hge, hat, hb⟩ => ⟨_, g, (T, cur), ⟨m, cap, rfl, hA, rfl⟩, he, hge, hat, hb⟩
  · obtain ⟨m', cap, rfl, hA, hT⟩ := hM
    obtain ⟨T', cur⟩ := x
    simp only at hT hA
    subst hT
    rw [hd]
    refine h g m' cap cur hA _ w _ (hF.put hn _) hL ⟨?_, fun b hb => ?_⟩
    · simp only [List.map_cons, List.nodup_cons, List.mem_map, not_exists, not_and]
      exact ⟨fun b hb e => (by have := hE.2 b hb; rw [e, he] at this; cases this), hE.1⟩
    · rcases List.mem_cons.1 hb with rfl | hb
      · exact Calm.upd_same _ _ _
      · rw [Calm.upd_ne _ _ (fun e => by have := hE.2 b hb; rw [e, he] at this; cases this)]; exact hE.2 b hb
theorem y_gd1 {dd : Option Tmp} {op : Op} {ty : TypeId} {ps : String} {af : Array Edge} {j : Nat} {b c : Bool} {t : Nat} (hj : (ops[j]?).bind (·.dst) = some t) (ht : lk l t = some (.bool c)) (hc : c = b) (h : Y P ops Q n O w0 pl (⟨dd, op, ty, ps, af, none⟩ :: rest) k l N L) : Y P ops Q n O w0 pl (⟨dd, op, ty, ps, af, some (j, b)⟩ :: rest) k l N L := fun a w E hF hL hE => by
  have h1 := h a w E hF hL hE
  unfold CalmB.wpLex at h1 ⊢
  rw [if_pos (by rfl)] at h1
  rw [if_pos (by simp [Region.wanted, yl hF hj ht, hc])]
  unfold CalmB.pOp at h1 ⊢
  cases hp : pl k with
  | inl vf =>
    rw [hp] at h1
    refine ⟨fun a d u hd => h1.1 a d u fun t ht hm => hd t ht ?_, h1.2⟩
    unfold Oper.looksAt at hm ⊢
    exact List.mem_append.2 (.inl (by simpa using hm))
  | inr M => rw [hp] at h1; exact h1
theorem y_gd0 {op : Op} {ty : TypeId} {ps : String} {af : Array Edge} {j : Nat} {b c : Bool} {t : Nat} (hn : Nat.blt d n = true) (hj : (ops[j]?).bind (·.dst) = some t) (ht : lk l t = some (.bool c)) (hc : c = !b) (hp : pl k = .inl fun _ => undef) (h : Y P ops Q n O w0 pl rest (k + 1) ((d, undef) :: l) N L) : Y P ops Q n O w0 pl (⟨some d, op, ty, ps, af, some (j, b)⟩ :: rest) k l N L := fun a w E hF hL hE => by
  unfold CalmB.wpLex
  rw [if_neg (by simp [Region.wanted, yl hF hj ht, hc])]
  exact h _ w E (hF.put hn undef) hL hE
theorem yu {a : Act} (hF : Fr n l a) {j t : Nat} (hj : (ops[j]?).bind (·.dst) = some t) (ht : lk l t = some undef) : yielded ops a.tmps j = none := by
  unfold yielded
  rw [hj, Option.bind_some, hF.get t _ ht]; rfl
theorem x_gdu {pl : Nat → Calm.Plan} {op : Op} {ty : TypeId} {ps : String} {af : Array Edge} {j : Nat} {b : Bool} {t : Nat} (hn : Nat.blt d n = true) (hj : (ops[j]?).bind (·.dst) = some t) (ht : lk l t = some undef) (hp : pl k = .inl undef) (h : X P ops Q n O w0 pl rest (k + 1) ((d, undef) :: l) N L) : X P ops Q n O w0 pl (⟨some d, op, ty, ps, af, some (j, b)⟩ :: rest) k l N L := fun a w E hF hL hE =>
  lex_skip (o := ⟨some d, op, ty, ps, af, some (j, b)⟩) (by simp [Region.wanted, yu hF hj ht]) (h _ w E (hF.put hn undef) hL hE)
theorem y_nil (h : E Q n O w0 .normal l (N ++ L)) : Y P ops Q n O w0 pl [] k l N L := fun a w E hF hL hE => by
  unfold CalmB.wpLex
  exact fun w' hH => h a w' hF (Kn.join hL hH hE)
theorem y_nil0 (h : E Q n O w0 .normal l L) : Y P ops Q n O w0 pl [] k l [] L := y_nil h
theorem c_drawY {id : Nat} {r : List Oper} (pl : List CalmB.Plan) (hm : P.follows .mixedOrders = true) (hB : Region.lexB .any r.toArray = true) (h : Y P r.toArray Q n O w0 (fun i => pl.getD i (.inl fun _ => undef)) r 0 l [] L) : C P Q n O w0 (.region id r.toArray true) l L := fun a w hF hL =>
  CalmB.wp_region_calm pl hm hB (h a w _ hF hL ⟨by simp, fun _ hb => by cases hb⟩)
theorem y_k (kk : Nat) (ho : opk o.op = kk) (h : Y P ops Q n O w0 pl (o :: rest) k l N L) : Y P ops Q n O w0 pl (o :: rest) k l N L := h
theorem y_gd {q : Nat × Bool} (ho : o.guard = some q) (h : Y P ops Q n O w0 pl (o :: rest) k l N L) : Y P ops Q n O w0 pl (o :: rest) k l N L := h
theorem y_g (h : Y P ops Q n O w0 pl rest k l N L) : Y P ops Q n O w0 pl rest k l N L := h
end Go.Proofs.Ytnafnhpajkhgkaa.Wk
/- Slices built in a region that draws its order; the first of some codes. No condition. -/
namespace Go.Proofs.Ytnafnhpajkhgkaa
set_option linter.unusedVariables false
set_option linter.unusedSimpArgs false
open Go.RowKit Mem Wk
namespace Wk
open Calm
variable {P : Program} {n : Nat} {O : List Nat} {w0 : World} {l : List (Nat × Value)} {N L : List (Nat × TypeId × Array Value)} {Q : Exit → Act → World → Prop} {ops : Array Oper} {o : Oper} {rest : List Oper} {k d : Nat} {pl : Nat → CalmB.Plan} {v : Value}
def BslM (T : TypeId) (len : Nat) (cs : Array Value) : Value → Nat → TypeId × Array Value → Prop := fun u g x => u = .slice (some ⟨g, 0, none⟩) len len ∧ x = (T, cs)
theorem y_bsl {t : TypeId} {len : Nat} {T : TypeId} {cs : Array Value} {parts : Array (Nat × Operand)} {ps : List (Nat × Value)} (ho : o.op = .buildSlice t len parts) (hp : evp l parts.toList = some ps) (hr : ∀ w, (Instr.buildSlice t len ps.toArray).run P w = .ok (.slice (some ⟨w.heap.size, 0, none⟩) len len) (w.alloc (.cells cs T (0, 0))))
    (hg : o.guard = none) (hd : o.dst = some d) (hn : Nat.blt d n = true) (hpl : pl k = .inr (BslM T len cs)) (h : ∀ g, Y P ops Q n O w0 pl rest (k + 1) ((d, .slice (some ⟨g, 0, none⟩) len len) :: l) ((g, T, cs) :: N) L) : Y P ops Q n O w0 pl (o :: rest) k l N L := fun a w E hF hL hE => by
  unfold CalmB.wpLex
  rw [if_pos (by simp [Region.wanted, hg])]
  unfold CalmB.pOp
  rw [hpl]
  refine ⟨fun N0 => ⟨.slice (some ⟨N0, 0, none⟩) len len, N0, (T, cs), Nat.le_refl _, rfl, rfl⟩, ⟨[], fun r hr => (by cases hr), fun w' hb' _ => ?_⟩, fun u g x hM hB he => ?_⟩
  · show CalmB.mkAt P o a w' _
    have e : parts.map (fun p => (p.1, a.eval p.2)) = ps.toArray := by rw [← hF.evp hp]; apply Array.ext'; simp
    have e' : (parts.map fun x => match x with | (i, x) => (i, a.eval x)) = ps.toArray := e
    have hx : (execOp a.eval o).run P w' = .ok (.value (.slice (some ⟨w'.heap.size, 0, none⟩) len len)) (w'.alloc (.cells cs T (0, 0))) := by simp [execOp, ho, e', hr]
    unfold CalmB.mkAt
    rw [hx]
    exact ⟨w'.heap.size, (T, cs), ⟨rfl, rfl⟩, Nat.le_refl _, (Own.new (Own.start w') T cs).has _ (by simp), (Own.new (Own.start w') T cs).toBelow⟩
  · obtain ⟨rfl, rfl⟩ := hM
    rw [hd]
    refine h g _ w _ (hF.put hn _) hL ⟨?_, fun b hb => ?_⟩
    · simp only [List.map_cons, List.nodup_cons, List.mem_map, not_exists, not_and]
      exact ⟨fun b hb e => (by have := hE.2 b hb; rw [e, he] at this; cases this), hE.1⟩
    · rcases List.mem_cons.1 hb with rfl | hb
      · exact Calm.upd_same _ _ _
      · rw [Calm.upd_ne _ _ (fun e => by have := hE.2 b hb; rw [e, he] at this; cases this)]; exact hE.2 b hb
end Wk
attribute [local irreducible] Calls Wk.S Wk.C Wk.E Wk.X Wk.T Wk.Y Calm.wpLex CalmB.wpLex
/-- the first code that is not 0 -/
def fstC : List Int → Int
  | [] => 0
  | a :: l => if a = 0 then fstC l else a
theorem fstC_skip : ∀ (l : List Int) (k : Nat), (∀ j c, j < k → l[j]? = some c → c = 0) → fstC l = fstC (l.drop k)
  | l, 0, _ => rfl
  | [], k + 1, _ => by simp [fstC]
  | a :: l, k + 1, h => by
    have h0 := h 0 a (by omega) rfl
    rw [fstC, if_pos h0, List.drop_succ_cons]
    exact fstC_skip l k fun j c hj hc => h (j + 1) c (by omega) (by simpa using hc)
theorem fstC_at {l : List Int} {k : Nat} {c : Int} (h : ∀ j c, j < k → l[j]? = some c → c = 0) (hc : l[k]? = some c) (hne : ¬ c = 0) : fstC l = c := by
  rw [fstC_skip l k h]
  have hlt := (List.getElem?_eq_some_iff.1 hc).1
  rw [List.drop_eq_getElem_cons hlt, (List.getElem?_eq_some_iff.1 hc).2, fstC, if_neg hne]
theorem fstC_end {l : List Int} (h : ∀ j c, j < l.length → l[j]? = some c → c = 0) : fstC l = 0 := by
  rw [fstC_skip l l.length h, List.drop_length]; rfl
set_option maxRecDepth 100000 in
theorem firstOfL_any (l : List Int) (g : Nat) (T : TypeId) (cap : Nat) (w : World) (hn : l.length ≤ 1000) (hg : w.heap[g]? = some (.cells (l.map (Value.int .i64)).toArray T (0, 0))) :
    Calls Try.prog 76 #[.slice (some ⟨g, 0, none⟩) l.length cap] w fun e w' => e = .returned (.int .i64 (fstC l)) ∧ Below w.heap.size w w' := by
  refine enter1 Try.func76 rfl rfl rfl (Own.start w) ?_
  repeat' (first
    | (refine s_g ?_; first
      | (refine s_k 0 rfl ?_; refine s_val rfl rfl rfl (r_move rfl rfl) ?_)
      | (refine s_k 8 rfl ?_; first | (refine' s_val rfl rfl rfl (r_ldv rfl rfl ?qm ?qv) ?_; (case qm => (exact zMm)); (case qv => (exact zLe))) | (refine' s_val rfl rfl rfl (r_ldo rfl rfl ?qw (by simp) ?qv) ?_; (case qw => assumption); (case qv => (exact zLe))))
      | (refine s_k 1 rfl ?_; refine s_val rfl rfl rfl (r_assign rfl rfl) ?_)
      | (refine s_k 13 rfl ?_; first | refine s_val rfl rfl rfl (r_lss rfl rfl rfl) ?_ | refine s_val rfl rfl rfl (r_neq rfl rfl rfl) ?_ | refine s_val rfl rfl rfl (r_add rfl rfl rfl (wrap_in (by simp only [lo, hi]; omega))) ?_)
      | (refine s_k 25 rfl ?_; first | refine s_val rfl rfl rfl (r_ixN tb rfl rfl rfl rfl (by omega)) ?_ | refine s_val rfl rfl rfl (r_ixA tb rfl rfl rfl rfl (by omega) (by omega)) ?_ | refine s_val rfl rfl rfl (r_ixO tb rfl rfl rfl rfl (by omega)) ?_)
      | (refine s_k 36 rfl ?_; refine s_val rfl rfl rfl (r_len tb rfl rfl rfl) ?_)
      | refine s_nil ?_)
    | (refine c_g ?_; first | refine c_seq ?_ | refine c_region ?_ | (refine c_gc ?_; first | refine c_cond1 rfl zTr ?_ | refine c_cond0 rfl zTr ?_ | refine z_condd1 rfl ?_ | refine z_condd0 rfl ?_ | refine z_conddn1 rfl ?_ | refine z_conddn0 rfl ?_ | refine c_condd rfl (fun hc => ?_) (fun hc => ?_) | refine c_conddn rfl (fun hc => ?_) (fun hc => ?_) | refine c_condn rfl (fun hc => ?_) (fun hc => ?_) | refine c_cond rfl (fun hc => ?_) (fun hc => ?_)) | refine c_block ?_ | refine c_skip ?_ | refine c_exit ?_ | refine c_ret ?_)
    | (refine e_g ?_; first | refine e_then ?_ | refine e_blkn ?_ | refine e_thenx ?_ | refine e_thenr ?_ | refine e_blkr ?_ | refine e_blkx ?_ | refine e_blky rfl ?_))
  refine c_loop (ι := Nat) (fun k => l.length - k) (fun k => k ≤ l.length ∧ ∀ j c, j < k → l[j]? = some c → c = 0) (fun k => [(7, .int .i64 (k : Int)), (6, .int .i64 (l.length : Int)), (5, .slice (some ⟨g, 0, none⟩) l.length cap)]) (fun _ => []) 0 ⟨by omega, fun j c hj => by omega⟩ ?hs rfl ?_
  case hs => (repeat' (first | exact sub_nil | refine sub_cons rfl ?_))
  rintro k ⟨hk, hF⟩
  by_cases hlt : k < l.length
  · have hx : l[k]? = some l[k] := List.getElem?_eq_getElem hlt
    have hx' : (l.map (Value.int .i64)).toArray[0 + k * 1]? = some (.int .i64 l[k]) := by simp [hx]
    generalize l[k] = c at *
    repeat' (first
      | (refine s_g ?_; first
      | (refine s_k 0 rfl ?_; refine s_val rfl rfl rfl (r_move rfl rfl) ?_)
      | (refine s_k 8 rfl ?_; first | (refine' s_val rfl rfl rfl (r_ldv rfl rfl ?qm ?qv) ?_; (case qm => (exact zMm)); (case qv => (first | exact ldvL tb rfl rfl | exact ldv1 tb rfl (by assumption) | exact ldv1 tb rfl (hx') | exact zLd))) | (refine' s_val rfl rfl rfl (r_ldo rfl rfl ?qw (by simp) ?qv) ?_; (case qw => assumption); (case qv => (first | exact ldvL tb rfl rfl | exact ldv1 tb rfl (by assumption) | exact ldv1 tb rfl (hx') | exact zLd))))
      | (refine s_k 1 rfl ?_; refine s_val rfl rfl rfl (r_assign rfl rfl) ?_)
      | (refine s_k 13 rfl ?_; first | refine s_val rfl rfl rfl (r_lss rfl rfl rfl) ?_ | refine s_val rfl rfl rfl (r_neq rfl rfl rfl) ?_ | refine s_val rfl rfl rfl (r_add rfl rfl rfl (wrap_in (by simp only [lo, hi]; omega))) ?_)
      | (refine s_k 25 rfl ?_; first | refine s_val rfl rfl rfl (r_ixO tb rfl rfl rfl rfl hlt) ?_ | refine s_val rfl rfl rfl (r_ixN tb rfl rfl rfl rfl (by omega)) ?_ | refine s_val rfl rfl rfl (r_ixA tb rfl rfl rfl rfl (by omega) (by omega)) ?_ | refine s_val rfl rfl rfl (r_ixO tb rfl rfl rfl rfl (by omega)) ?_)
      | (refine s_k 36 rfl ?_; refine s_val rfl rfl rfl (r_len tb rfl rfl rfl) ?_)
      | refine s_nil ?_)
      | (refine c_g ?_; first | refine c_seq ?_ | refine c_region ?_ | (refine c_gc ?_; first | refine c_cond1 rfl zTr ?_ | refine c_cond0 rfl zTr ?_ | refine z_condd1 rfl ?_ | refine z_condd0 rfl ?_ | refine z_conddn1 rfl ?_ | refine z_conddn0 rfl ?_ | refine c_condd rfl (fun hc => ?_) (fun hc => ?_) | refine c_conddn rfl (fun hc => ?_) (fun hc => ?_) | refine c_condn rfl (fun hc => ?_) (fun hc => ?_) | refine c_cond rfl (fun hc => ?_) (fun hc => ?_)) | refine c_block ?_ | refine c_skip ?_ | refine c_exit ?_ | refine c_ret ?_)
      | (refine e_g ?_; first | refine e_then ?_ | refine e_blkn ?_ | refine e_thenx ?_ | refine e_thenr ?_ | refine e_blkr ?_ | refine e_blkx ?_ | refine e_blky rfl ?_)
      | (refine e_ret1 (by simp) rfl (re_tmp rfl) fun w hL => ⟨by rw [fstC_at hF hx (by assumption)], hL.toBelow⟩)
      | (refine e_round (k + 1) (by omega) ⟨by omega, fun j d hj hd => ?_⟩ ?hs rfl; (case hs => (repeat' (first | exact sub_nil | refine sub_cons rfl ?_)))))
    all_goals
      by_cases e : j = k
      · subst e; rw [hx] at hd; injection hd with hd; subst hd; assumption
      · exact hF j d (by omega) hd
  · have hkl : k = l.length := by omega
    subst hkl
    repeat' (first
      | (refine s_g ?_; first
      | (refine s_k 0 rfl ?_; refine s_val rfl rfl rfl (r_move rfl rfl) ?_)
      | (refine s_k 8 rfl ?_; first | (refine' s_val rfl rfl rfl (r_ldv rfl rfl ?qm ?qv) ?_; (case qm => (exact zMm)); (case qv => (exact zLe))) | (refine' s_val rfl rfl rfl (r_ldo rfl rfl ?qw (by simp) ?qv) ?_; (case qw => assumption); (case qv => (exact zLe))))
      | (refine s_k 1 rfl ?_; refine s_val rfl rfl rfl (r_assign rfl rfl) ?_)
      | (refine s_k 13 rfl ?_; first | refine s_val rfl rfl rfl (r_lss rfl rfl rfl) ?_ | refine s_val rfl rfl rfl (r_neq rfl rfl rfl) ?_ | refine s_val rfl rfl rfl (r_add rfl rfl rfl (wrap_in (by simp only [lo, hi]; omega))) ?_)
      | (refine s_k 25 rfl ?_; first | refine s_val rfl rfl rfl (r_ixN tb rfl rfl rfl rfl (by omega)) ?_ | refine s_val rfl rfl rfl (r_ixA tb rfl rfl rfl rfl (by omega) (by omega)) ?_ | refine s_val rfl rfl rfl (r_ixO tb rfl rfl rfl rfl (by omega)) ?_)
      | (refine s_k 36 rfl ?_; refine s_val rfl rfl rfl (r_len tb rfl rfl rfl) ?_)
      | refine s_nil ?_)
      | (refine c_g ?_; first | refine c_seq ?_ | refine c_region ?_ | (refine c_gc ?_; first | refine c_cond1 rfl zTr ?_ | refine c_cond0 rfl zTr ?_ | refine z_condd1 rfl ?_ | refine z_condd0 rfl ?_ | refine z_conddn1 rfl ?_ | refine z_conddn0 rfl ?_ | refine c_condd rfl (fun hc => ?_) (fun hc => ?_) | refine c_conddn rfl (fun hc => ?_) (fun hc => ?_) | refine c_condn rfl (fun hc => ?_) (fun hc => ?_) | refine c_cond rfl (fun hc => ?_) (fun hc => ?_)) | refine c_block ?_ | refine c_skip ?_ | refine c_exit ?_ | refine c_ret ?_)
      | (refine e_g ?_; first | refine e_then ?_ | refine e_blkn ?_ | refine e_thenx ?_ | refine e_thenr ?_ | refine e_blkr ?_ | refine e_blkx ?_ | refine e_blky rfl ?_)
      | (refine e_ret1 (by simp) rfl (re_tmp rfl) fun w hL => ⟨by rw [fstC_end hF], hL.toBelow⟩))
theorem fo2 {a b : Int} {g cap : Nat} {T : TypeId} {w : World} (hg : w.heap[g]? = some (.cells #[.int .i64 a, .int .i64 b] T (0, 0))) : Calls Try.prog 76 #[.slice (some ⟨g, 0, none⟩) 2 cap] w fun e w' => e = .returned (.int .i64 (fstC [a, b])) ∧ Below w.heap.size w w' := firstOfL_any [a, b] g T cap w (by simp) hg
theorem fo2v {a b c : Int} {g cap : Nat} {T : TypeId} {w : World} (hc : fstC [a, b] = c) (hg : w.heap[g]? = some (.cells #[.int .i64 a, .int .i64 b] T (0, 0))) : Calls Try.prog 76 #[.slice (some ⟨g, 0, none⟩) 2 cap] w fun e w' => e = .returned (.int .i64 c) ∧ Below w.heap.size w w' := by rw [← hc]; exact fo2 hg
end Go.Proofs.Ytnafnhpajkhgkaa
