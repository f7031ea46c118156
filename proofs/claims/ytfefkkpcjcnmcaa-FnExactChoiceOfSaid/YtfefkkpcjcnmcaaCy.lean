/- The walk in a region that draws its order and holds callees that make slices. No condition. -/
import Derived.Test.YtfefkkpcjcnmcaaCb
import Derived.Test.YtfefkkpcjcnmcaaBes
namespace Go.Proofs.Ytfefkkpcjcnmcaa.Wk
set_option linter.unusedVariables false
set_option linter.unusedSimpArgs false
open Go Go.RowKit Mem Calm
variable {P : Program} {n : Nat} {O : List Nat} {w0 : World} {l : List (Nat × Value)} {N L : List (Nat × TypeId × Array Value)} {Q : Exit → Act → World → Prop} {ops : Array Oper} {o : Oper} {rest : List Oper} {k d : Nat} {pl : Nat → CalmB.Plan} {v : Value}
def Y (P : Program) (ops : Array Oper) (Q : Exit → Act → World → Prop) (n : Nat) (O : List Nat) (w0 : World) (pl : Nat → CalmB.Plan) (rest : List Oper) (k : Nat) (l : List (Nat × Value)) (N L : List (Nat × TypeId × Array Value)) : Prop :=
  ∀ a w E, Fr n l a → Kn O w0 w L → Md E N → CalmB.wpLex P ops w.heap.size w pl (fun a' E' => ∀ w', Holds w.heap.size w E' w' → Q .normal a' w') rest k a E
theorem y_val (hg : o.guard = none) (hd : o.dst = some d) (hn : Nat.blt d n = true) (hr : Rn P n O w0 l L o v) (hp : pl k = .inl fun _ => v) (h : Y P ops Q n O w0 pl rest (k + 1) ((d, v) :: l) N L) : Y P ops Q n O w0 pl (o :: rest) k l N L := fun a w E hF hL hE => by
  unfold CalmB.wpLex
  rw [if_pos (by simp [Region.wanted, hg])]
  unfold CalmB.pOp
  rw [hp]
  refine ⟨fun _ _ _ _ => rfl, ⟨[], fun r hr => (by cases hr), fun w' hb _ => ?_⟩, by rw [hd]; exact h _ w E (hF.put hn v) hL hE⟩
  show calmAt P o a w' v
  unfold calmAt; rw [hr a w' hF (Own.ext hL hb)]; exact ⟨rfl, rfl⟩
theorem y_callc {f : FuncId} {fn : Func} {xs : Array Operand} {ts : Array TypeId} {fx : Operand} {caps vs : List Value} (hf : P.funcs[f]? = some fn) (hname : (fn.name == "runtime.NumGoroutine") = false) (hb : fn.body.isSome = true) (hg : o.guard = none) (hd : o.dst = some d) (hn : Nat.blt d n = true)
    (hop : o.op = .call { callee := .value fx, args := xs, argTypes := ts }) (hfx : ev l fx = some (.func (.func f) #[] caps.toArray)) (hargs : evs l xs.toList = some vs)
    (hc : ∀ w, Kn O w0 w L → Calls P f (vs ++ caps).toArray w fun e w' => e = .returned v ∧ Below w.heap.size w w') (hp : pl k = .inl fun _ => v) (h : Y P ops Q n O w0 pl rest (k + 1) ((d, v) :: l) N L) : Y P ops Q n O w0 pl (o :: rest) k l N L := fun a w E hF hL hE => by
  unfold CalmB.wpLex
  rw [if_pos (by simp [Region.wanted, hg])]
  unfold CalmB.pOp
  rw [hp]
  refine ⟨fun _ _ _ _ => rfl, ⟨[], fun r hr => (by cases hr), fun w' hb' _ => ?_⟩, by rw [hd]; exact h _ w E (hF.put hn v) hL hE⟩
  show calmAt P o a w' v
  unfold calmAt
  rw [run_callc hf hname hb hop (hF.eval hfx) (hF.evals hargs) w']
  exact ⟨rfl, hc w' (Own.ext hL hb')⟩
theorem y_call {f : FuncId} {fn : Func} {xs : Array Operand} {ts : Array TypeId} {vs : List Value} (hf : P.funcs[f]? = some fn) (hname : (fn.name == "runtime.NumGoroutine") = false) (hb : fn.body.isSome = true) (hg : o.guard = none) (hd : o.dst = some d) (hn : Nat.blt d n = true)
    (hop : o.op = .call { callee := .value (.func f), args := xs, argTypes := ts }) (hargs : evs l xs.toList = some vs)
    (hc : ∀ w, Kn O w0 w L → Calls P f vs.toArray w fun e w' => e = .returned v ∧ Below w.heap.size w w') (hp : pl k = .inl fun _ => v) (h : Y P ops Q n O w0 pl rest (k + 1) ((d, v) :: l) N L) : Y P ops Q n O w0 pl (o :: rest) k l N L :=
  y_callc (caps := []) hf hname hb hg hd hn hop rfl hargs (fun w hL => by rw [List.append_nil]; exact hc w hL) hp h
theorem ment_arg {f : FuncId} {xs : Array Operand} {ts : Array TypeId} {a : Act} {g off m cap : Nat} {x : Operand} (hop : o.op = .call { callee := .value (.func f), args := xs, argTypes := ts }) (hF : Fr n l a) (hx : x ∈ xs.toList) (hv : ev l x = some (.slice (some ⟨g, off, none⟩) m cap)) : CalmB.Ment o a g :=
  ⟨x, by rw [hop]; simp [Op.operands, Call.operands]; exact .inr (by simpa using hx), off, m, cap, hF.eval hv⟩
/-- A callee that reads what another one has made. -/
theorem y_rd {f : FuncId} {fn : Func} {xs : Array Operand} {ts : Array TypeId} {vs : List Value} {g off m cap : Nat} {T : TypeId} {cs : Array Value} {x : Operand} (hf : P.funcs[f]? = some fn) (hname : (fn.name == "runtime.NumGoroutine") = false) (hb : fn.body.isSome = true) (hg : o.guard = none) (hd : o.dst = some d) (hn : Nat.blt d n = true)
    (hop : o.op = .call { callee := .value (.func f), args := xs, argTypes := ts }) (hargs : evs l xs.toList = some vs) (hm : (g, T, cs) ∈ N) (hx : x ∈ xs.toList) (hv : ev l x = some (.slice (some ⟨g, off, none⟩) m cap))
    (hc : ∀ w, Kn O w0 w ((g, T, cs) :: L) → Calls P f vs.toArray w fun e w' => e = .returned v ∧ Below w.heap.size w w') (hp : pl k = .inl fun _ => v) (h : Y P ops Q n O w0 pl rest (k + 1) ((d, v) :: l) N L) : Y P ops Q n O w0 pl (o :: rest) k l N L := fun a w E hF hL hE => by
  unfold CalmB.wpLex
  rw [if_pos (by simp [Region.wanted, hg])]
  unfold CalmB.pOp
  rw [hp]
  refine ⟨fun _ _ _ _ => rfl, ⟨[(g, T, cs)], fun r hr => ?_, fun w' hb' hR => ?_⟩, by rw [hd]; exact h _ w E (hF.put hn v) hL hE⟩
  · have e : r = (g, T, cs) := by simpa using hr
    subst e
    exact ⟨ment_arg hop hF hx hv, hE.2 _ hm⟩
  · show calmAt P o a w' v
    obtain ⟨hB, hH⟩ := hR _ (List.mem_singleton.2 rfl)
    unfold calmAt
    rw [run_callc (caps := []) hf hname hb hop rfl (hF.evals hargs) w']
    refine ⟨rfl, ?_⟩
    rw [List.append_nil]
    exact hc w' (Kn.add (Own.ext hL hb') (Nat.le_trans hL.size hB) (fun y hy => by
      have := (Array.getElem?_eq_some_iff.1 (hL.has y hy)).1
      have hB' : w.heap.size ≤ g := hB
      omega) hH)
/-- What a move, an assignment or an extraction yields. -/
def opV (o : Oper) (a : Act) : Value := match o.op with
  | .move x => a.eval x
  | .assign x => a.eval x
  | .extract x i => (match a.eval x with
    | .tuple vs => vs.getD i undef
    | _ => undef)
  | _ => undef
theorem opV_loc (ops : Array Oper) (o : Oper) : CalmB.Loc ops o (opV o) := fun a d u h => by
  unfold opV
  cases ho : o.op <;> simp only
  case move x => exact CalmB.evalPut h (by rw [ho]; simp [Op.operands])
  case assign x => exact CalmB.evalPut h (by rw [ho]; simp [Op.operands])
  case extract x i => rw [CalmB.evalPut h (by rw [ho]; simp [Op.operands])]
theorem y_opV (hg : o.guard = none) (hd : o.dst = some d) (hn : Nat.blt d n = true) (hv : ∀ a, Fr n l a → opV o a = v) (hr : Rn P n O w0 l L o v) (hp : pl k = .inl (opV o)) (h : Y P ops Q n O w0 pl rest (k + 1) ((d, v) :: l) N L) : Y P ops Q n O w0 pl (o :: rest) k l N L := fun a w E hF hL hE => by
  unfold CalmB.wpLex
  rw [if_pos (by simp [Region.wanted, hg])]
  unfold CalmB.pOp
  rw [hp]
  refine ⟨opV_loc _ _, ⟨[], fun r hr => (by cases hr), fun w' hb _ => ?_⟩, by rw [hd, hv a hF]; exact h _ w E (hF.put hn v) hL hE⟩
  show calmAt P o a w' (opV o a)
  rw [hv a hF]
  unfold calmAt; rw [hr a w' hF (Own.ext hL hb)]; exact ⟨rfl, rfl⟩
theorem y_move {x : Operand} (hg : o.guard = none) (hd : o.dst = some d) (hn : Nat.blt d n = true) (ho : o.op = .move x) (hx : ev l x = some v) (hp : pl k = .inl (opV o)) (h : Y P ops Q n O w0 pl rest (k + 1) ((d, v) :: l) N L) : Y P ops Q n O w0 pl (o :: rest) k l N L :=
  y_opV hg hd hn (fun a hF => by unfold opV; rw [ho]; exact hF.eval hx) (r_move ho hx) hp h
theorem y_assign {x : Operand} (hg : o.guard = none) (hd : o.dst = some d) (hn : Nat.blt d n = true) (ho : o.op = .assign x) (hx : ev l x = some v) (hp : pl k = .inl (opV o)) (h : Y P ops Q n O w0 pl rest (k + 1) ((d, v) :: l) N L) : Y P ops Q n O w0 pl (o :: rest) k l N L :=
  y_opV hg hd hn (fun a hF => by unfold opV; rw [ho]; exact hF.eval hx) (r_assign ho hx) hp h
theorem y_extract {x : Operand} {vs : List Value} {i : Nat} (hg : o.guard = none) (hd : o.dst = some d) (hn : Nat.blt d n = true) (ho : o.op = .extract x i) (hx : ev l x = some (.tuple vs.toArray)) (hv : nth vs i = some v) (hp : pl k = .inl (opV o)) (h : Y P ops Q n O w0 pl rest (k + 1) ((d, v) :: l) N L) : Y P ops Q n O w0 pl (o :: rest) k l N L :=
  y_opV hg hd hn (fun a hF => by unfold opV; rw [ho]; simp only [hF.eval hx]; rw [nth_eq] at hv; simp [Array.getD_eq_getD_getElem?, hv]) (r_extractL ho hx hv) hp h
def MadeS (T : TypeId) (sz : Nat) (cs : List Value) : Value → Nat → TypeId × Array Value → Prop := fun u g x => ∃ m cap, u = .slice (some ⟨g, 0, none⟩) m cap ∧ Ap sz m cap x.2 cs ∧ x.1 = T
/-- A callee that makes a slice. -/
theorem y_callN {f : FuncId} {fn : Func} {xs : Array Operand} {ts : Array TypeId} {vs : List Value} {T : TypeId} {sz m : Nat} {cs : List Value} (hf : P.funcs[f]? = some fn) (hname : (fn.name == "runtime.NumGoroutine") = false) (hb : fn.body.isSome = true) (hg : o.guard = none) (hd : o.dst = some d) (hn : Nat.blt d n = true)
    (hop : o.op = .call { callee := .value (.func f), args := xs, argTypes := ts }) (hargs : evs l xs.toList = some vs) (hc : ∀ w, Kn O w0 w L → Calls P f vs.toArray w (NewS T sz cs w)) (hlen : cs.length = m * sz) (hmx : m ≤ maxLen) (hp : pl k = .inr (MadeS T sz cs))
    (h : ∀ g m cap cur, Ap sz m cap cur cs → Y P ops Q n O w0 pl rest (k + 1) ((d, .slice (some ⟨g, 0, none⟩) m cap) :: l) ((g, T, cur) :: N) L) : Y P ops Q n O w0 pl (o :: rest) k l N L := fun a w E hF hL hE => by
  unfold CalmB.wpLex
  rw [if_pos (by simp [Region.wanted, hg])]
  unfold CalmB.pOp
  rw [hp]
  refine ⟨fun N0 => ⟨.slice (some ⟨N0, 0, none⟩) m m, N0, (T, cs.toArray), Nat.le_refl _, m, m, rfl, ⟨hlen, Nat.le_refl _, hmx, by simp [hlen], by simp [← hlen]⟩, rfl⟩, ⟨[], fun r hr => (by cases hr), fun w' hb' _ => ?_⟩, fun u g x hM hB he => ?_⟩
  · show CalmB.mkAt P o a w' _
    unfold CalmB.mkAt
    rw [run_callc (caps := []) hf hname hb hop rfl (hF.evals hargs) w']
    refine ⟨rfl, ?_⟩
    rw [List.append_nil]
    exact (hc w' (Own.ext hL hb')).mono fun e w'' ⟨g, m, cap, cur, he, hA, hge, hat, hb⟩ => ⟨_, g, (T, cur), ⟨m, cap, rfl, hA, rfl⟩, he, hge, hat, hb⟩
  · obtain ⟨m', cap, rfl, hA, hT⟩ := hM
    obtain ⟨T', cur⟩ := x
    simp only at hT hA
    subst hT
    rw [hd]
    refine h g m' cap cur hA _ w _ (hF.put hn _) hL ⟨?_, fun b hb => ?_⟩
    · simp only [List.map_cons, List.nodup_cons, List.mem_map, not_exists, not_and]
      exact ⟨fun b hb e => (by have := hE.2 b hb; rw [e, he] at this; cases this), hE.1⟩
    · rcases List.mem_cons.1 hb with rfl | hb
      · exact Calm.upd_same _ _ _
      · rw [Calm.upd_ne _ _ (fun e => by have := hE.2 b hb; rw [e, he] at this; cases this)]; exact hE.2 b hb
theorem y_gd1 {dd : Option Tmp} {op : Op} {ty : TypeId} {ps : String} {af : Array Edge} {j : Nat} {b c : Bool} {t : Nat} (hj : (ops[j]?).bind (·.dst) = some t) (ht : lk l t = some (.bool c)) (hc : c = b) (h : Y P ops Q n O w0 pl (⟨dd, op, ty, ps, af, none⟩ :: rest) k l N L) : Y P ops Q n O w0 pl (⟨dd, op, ty, ps, af, some (j, b)⟩ :: rest) k l N L := fun a w E hF hL hE => by
  have h1 := h a w E hF hL hE
  unfold CalmB.wpLex at h1 ⊢
  rw [if_pos (by rfl)] at h1
  rw [if_pos (by simp [Region.wanted, yl hF hj ht, hc])]
  unfold CalmB.pOp at h1 ⊢
  cases hp : pl k with
  | inl vf =>
    rw [hp] at h1
    refine ⟨fun a d u hd => h1.1 a d u fun t ht hm => hd t ht ?_, h1.2⟩
    unfold Oper.looksAt at hm ⊢
    exact List.mem_append.2 (.inl (by simpa using hm))
  | inr M => rw [hp] at h1; exact h1
theorem y_gd0 {op : Op} {ty : TypeId} {ps : String} {af : Array Edge} {j : Nat} {b c : Bool} {t : Nat} (hn : Nat.blt d n = true) (hj : (ops[j]?).bind (·.dst) = some t) (ht : lk l t = some (.bool c)) (hc : c = !b) (hp : pl k = .inl fun _ => undef) (h : Y P ops Q n O w0 pl rest (k + 1) ((d, undef) :: l) N L) : Y P ops Q n O w0 pl (⟨some d, op, ty, ps, af, some (j, b)⟩ :: rest) k l N L := fun a w E hF hL hE => by
  unfold CalmB.wpLex
  rw [if_neg (by simp [Region.wanted, yl hF hj ht, hc])]
  exact h _ w E (hF.put hn undef) hL hE
theorem yu {a : Act} (hF : Fr n l a) {j t : Nat} (hj : (ops[j]?).bind (·.dst) = some t) (ht : lk l t = some undef) : yielded ops a.tmps j = none := by
  unfold yielded
  rw [hj, Option.bind_some, hF.get t _ ht]; rfl
theorem y_gdu {op : Op} {ty : TypeId} {ps : String} {af : Array Edge} {j : Nat} {b : Bool} {t : Nat} (hn : Nat.blt d n = true) (hj : (ops[j]?).bind (·.dst) = some t) (ht : lk l t = some undef) (hp : pl k = .inl fun _ => undef) (h : Y P ops Q n O w0 pl rest (k + 1) ((d, undef) :: l) N L) : Y P ops Q n O w0 pl (⟨some d, op, ty, ps, af, some (j, b)⟩ :: rest) k l N L := fun a w E hF hL hE => by
  unfold CalmB.wpLex
  rw [if_neg (by simp [Region.wanted, yu hF hj ht])]
  exact h _ w E (hF.put hn undef) hL hE
theorem x_gdu {pl : Nat → Calm.Plan} {op : Op} {ty : TypeId} {ps : String} {af : Array Edge} {j : Nat} {b : Bool} {t : Nat} (hn : Nat.blt d n = true) (hj : (ops[j]?).bind (·.dst) = some t) (ht : lk l t = some undef) (hp : pl k = .inl undef) (h : X P ops Q n O w0 pl rest (k + 1) ((d, undef) :: l) N L) : X P ops Q n O w0 pl (⟨some d, op, ty, ps, af, some (j, b)⟩ :: rest) k l N L := fun a w E hF hL hE =>
  lex_skip (o := ⟨some d, op, ty, ps, af, some (j, b)⟩) (by simp [Region.wanted, yu hF hj ht]) (h _ w E (hF.put hn undef) hL hE)
theorem y_nil (h : E Q n O w0 .normal l (N ++ L)) : Y P ops Q n O w0 pl [] k l N L := fun a w E hF hL hE => by
  unfold CalmB.wpLex
  exact fun w' hH => h a w' hF (Kn.join hL hH hE)
theorem y_nil0 (h : E Q n O w0 .normal l L) : Y P ops Q n O w0 pl [] k l [] L := y_nil h
theorem c_drawY {id : Nat} {r : List Oper} (pl : List CalmB.Plan) (hm : P.follows .mixedOrders = true) (hB : Region.lexB .any r.toArray = true) (h : Y P r.toArray Q n O w0 (fun i => pl.getD i (.inl fun _ => undef)) r 0 l [] L) : C P Q n O w0 (.region id r.toArray true) l L := fun a w hF hL =>
  CalmB.wp_region_calm pl hm hB (h a w _ hF hL ⟨by simp, fun _ hb => by cases hb⟩)
theorem y_k (kk : Nat) (ho : opk o.op = kk) (h : Y P ops Q n O w0 pl (o :: rest) k l N L) : Y P ops Q n O w0 pl (o :: rest) k l N L := h
theorem y_gd {q : Nat × Bool} (ho : o.guard = some q) (h : Y P ops Q n O w0 pl (o :: rest) k l N L) : Y P ops Q n O w0 pl (o :: rest) k l N L := h
theorem y_g (h : Y P ops Q n O w0 pl rest k l N L) : Y P ops Q n O w0 pl rest k l N L := h
end Go.Proofs.Ytfefkkpcjcnmcaa.Wk
