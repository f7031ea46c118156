import Derived.Test.YtnfdefeafhepkaaQI10
import Derived.Test.YtnfdefeafhepkaaQI12
import Derived.Test.YtnfdefeafhepkaaQI16
import Derived.Test.YtnfdefeafhepkaaQI17
import Derived.Test.YtnfdefeafhepkaaQI18
set_option linter.unusedVariables false
set_option linter.unusedSimpArgs false
namespace Go.Proofs.Ytnfdefeafhepkaa.Wk
open Go Go.RowKit Mem Calm
variable {P : Program} {n : Nat} {O : List Nat} {w0 : World} {l : List (Nat × Value)} {N L : List (Nat × TypeId × Array Value)} {Q : Exit → Act → World → Prop} {ops : Array Oper} {o : Oper} {rest : List Oper} {k d : Nat} {pl : Nat → CalmB.Plan} {v : Value}
def Y (P : Program) (ops : Array Oper) (Q : Exit → Act → World → Prop) (n : Nat) (O : List Nat) (w0 : World) (pl : Nat → CalmB.Plan) (rest : List Oper) (k : Nat) (l : List (Nat × Value)) (N L : List (Nat × TypeId × Array Value)) : Prop :=
  ∀ a w E, Fr n l a → Kn O w0 w L → Md E N → CalmB.wpLex P ops w.heap.size w pl (fun a' E' => ∀ w', Holds w.heap.size w E' w' → Q .normal a' w') rest k a E
theorem y_val (hg : o.guard = none) (hd : o.dst = some d) (hn : Nat.blt d n = true) (hr : Rn P n O w0 l L o v) (hp : pl k = .inl fun _ => v) (h : Y P ops Q n O w0 pl rest (k + 1) ((d, v) :: l) N L) : Y P ops Q n O w0 pl (o :: rest) k l N L := fun a w E hF hL hE => by
  unfold CalmB.wpLex
  rw [if_pos (by simp [Region.wanted, hg])]
  unfold CalmB.pOp
  rw [hp]
  refine ⟨fun _ _ _ _ => rfl, ⟨[], fun r hr => (by cases hr), fun w' hb _ => ?_⟩, by rw [hd]; exact h _ w E (hF.put hn v) hL hE⟩
  show calmAt P o a w' v
  unfold calmAt; rw [hr a w' hF (Own.ext hL hb)]; exact ⟨rfl, rfl⟩
theorem y_callc {f : FuncId} {fn : Func} {xs : Array Operand} {ts : Array TypeId} {fx : Operand} {caps vs : List Value} (hf : P.funcs[f]? = some fn) (hname : (fn.name == "runtime.NumGoroutine") = false) (hb : fn.body.isSome = true) (hg : o.guard = none) (hd : o.dst = some d) (hn : Nat.blt d n = true)
    (hop : o.op = .call { callee := .value fx, args := xs, argTypes := ts }) (hfx : ev l fx = some (.func (.func f) #[] caps.toArray)) (hargs : evs l xs.toList = some vs)
    (hc : ∀ w, Kn O w0 w L → Calls P f (vs ++ caps).toArray w fun e w' => e = .returned v ∧ Below w.heap.size w w') (hp : pl k = .inl fun _ => v) (h : Y P ops Q n O w0 pl rest (k + 1) ((d, v) :: l) N L) : Y P ops Q n O w0 pl (o :: rest) k l N L := fun a w E hF hL hE => by
  unfold CalmB.wpLex
  rw [if_pos (by simp [Region.wanted, hg])]
  unfold CalmB.pOp
  rw [hp]
  refine ⟨fun _ _ _ _ => rfl, ⟨[], fun r hr => (by cases hr), fun w' hb' _ => ?_⟩, by rw [hd]; exact h _ w E (hF.put hn v) hL hE⟩
  show calmAt P o a w' v
  unfold calmAt
  rw [run_callc hf hname hb hop (hF.eval hfx) (hF.evals hargs) w']
  exact ⟨rfl, hc w' (Own.ext hL hb')⟩
theorem y_call {f : FuncId} {fn : Func} {xs : Array Operand} {ts : Array TypeId} {vs : List Value} (hf : P.funcs[f]? = some fn) (hname : (fn.name == "runtime.NumGoroutine") = false) (hb : fn.body.isSome = true) (hg : o.guard = none) (hd : o.dst = some d) (hn : Nat.blt d n = true)
    (hop : o.op = .call { callee := .value (.func f), args := xs, argTypes := ts }) (hargs : evs l xs.toList = some vs)
    (hc : ∀ w, Kn O w0 w L → Calls P f vs.toArray w fun e w' => e = .returned v ∧ Below w.heap.size w w') (hp : pl k = .inl fun _ => v) (h : Y P ops Q n O w0 pl rest (k + 1) ((d, v) :: l) N L) : Y P ops Q n O w0 pl (o :: rest) k l N L :=
  y_callc (caps := []) hf hname hb hg hd hn hop rfl hargs (fun w hL => by rw [List.append_nil]; exact hc w hL) hp h
theorem ment_arg {f : FuncId} {xs : Array Operand} {ts : Array TypeId} {a : Act} {g off m cap : Nat} {x : Operand} (hop : o.op = .call { callee := .value (.func f), args := xs, argTypes := ts }) (hF : Fr n l a) (hx : x ∈ xs.toList) (hv : ev l x = some (.slice (some ⟨g, off, none⟩) m cap)) : CalmB.Ment o a g :=
  ⟨x, by rw [hop]; simp [Op.operands, Call.operands]; exact .inr (by simpa using hx), off, m, cap, hF.eval hv⟩
theorem y_rd {f : FuncId} {fn : Func} {xs : Array Operand} {ts : Array TypeId} {vs : List Value} {g off m cap : Nat} {T : TypeId} {cs : Array Value} {x : Operand} (hf : P.funcs[f]? = some fn) (hname : (fn.name == "runtime.NumGoroutine") = false) (hb : fn.body.isSome = true) (hg : o.guard = none) (hd : o.dst = some d) (hn : Nat.blt d n = true)
    (hop : o.op = .call { callee := .value (.func f), args := xs, argTypes := ts }) (hargs : evs l xs.toList = some vs) (hm : (g, T, cs) ∈ N) (hx : x ∈ xs.toList) (hv : ev l x = some (.slice (some ⟨g, off, none⟩) m cap))
    (hc : ∀ w, Kn O w0 w ((g, T, cs) :: L) → Calls P f vs.toArray w fun e w' => e = .returned v ∧ Below w.heap.size w w') (hp : pl k = .inl fun _ => v) (h : Y P ops Q n O w0 pl rest (k + 1) ((d, v) :: l) N L) : Y P ops Q n O w0 pl (o :: rest) k l N L := fun a w E hF hL hE => by
  unfold CalmB.wpLex
  rw [if_pos (by simp [Region.wanted, hg])]
  unfold CalmB.pOp
  rw [hp]
  refine ⟨fun _ _ _ _ => rfl, ⟨[(g, T, cs)], fun r hr => ?_, fun w' hb' hR => ?_⟩, by rw [hd]; exact h _ w E (hF.put hn v) hL hE⟩
  · have e : r = (g, T, cs) := by simpa using hr
    subst e
    exact ⟨ment_arg hop hF hx hv, hE.2 _ hm⟩
  · show calmAt P o a w' v
    obtain ⟨hB, hH⟩ := hR _ (List.mem_singleton.2 rfl)
    unfold calmAt
    rw [run_callc (caps := []) hf hname hb hop rfl (hF.evals hargs) w']
    refine ⟨rfl, ?_⟩
    rw [List.append_nil]
    exact hc w' (Kn.add (Own.ext hL hb') (Nat.le_trans hL.size hB) (fun y hy => by
      have := (Array.getElem?_eq_some_iff.1 (hL.has y hy)).1
      have hB' : w.heap.size ≤ g := hB
      omega) hH)
def opV (o : Oper) (a : Act) : Value := match o.op with
  | .move x => a.eval x
  | .assign x => a.eval x
  | .extract x i => (match a.eval x with
    | .tuple vs => vs.getD i undef
    | _ => undef)
  | _ => undef
theorem opV_loc (ops : Array Oper) (o : Oper) : CalmB.Loc ops o (opV o) := fun a d u h => by
  unfold opV
  cases ho : o.op <;> simp only
  case move x => exact CalmB.evalPut h (by rw [ho]; simp [Op.operands])
  case assign x => exact CalmB.evalPut h (by rw [ho]; simp [Op.operands])
  case extract x i => rw [CalmB.evalPut h (by rw [ho]; simp [Op.operands])]
theorem y_opV (hg : o.guard = none) (hd : o.dst = some d) (hn : Nat.blt d n = true) (hv : ∀ a, Fr n l a → opV o a = v) (hr : Rn P n O w0 l L o v) (hp : pl k = .inl (opV o)) (h : Y P ops Q n O w0 pl rest (k + 1) ((d, v) :: l) N L) : Y P ops Q n O w0 pl (o :: rest) k l N L := fun a w E hF hL hE => by
  unfold CalmB.wpLex
  rw [if_pos (by simp [Region.wanted, hg])]
  unfold CalmB.pOp
  rw [hp]
  refine ⟨opV_loc _ _, ⟨[], fun r hr => (by cases hr), fun w' hb _ => ?_⟩, by rw [hd, hv a hF]; exact h _ w E (hF.put hn v) hL hE⟩
  show calmAt P o a w' (opV o a)
  rw [hv a hF]
  unfold calmAt; rw [hr a w' hF (Own.ext hL hb)]; exact ⟨rfl, rfl⟩
theorem y_move {x : Operand} (hg : o.guard = none) (hd : o.dst = some d) (hn : Nat.blt d n = true) (ho : o.op = .move x) (hx : ev l x = some v) (hp : pl k = .inl (opV o)) (h : Y P ops Q n O w0 pl rest (k + 1) ((d, v) :: l) N L) : Y P ops Q n O w0 pl (o :: rest) k l N L :=
  y_opV hg hd hn (fun a hF => by unfold opV; rw [ho]; exact hF.eval hx) (r_move ho hx) hp h
theorem y_assign {x : Operand} (hg : o.guard = none) (hd : o.dst = some d) (hn : Nat.blt d n = true) (ho : o.op = .assign x) (hx : ev l x = some v) (hp : pl k = .inl (opV o)) (h : Y P ops Q n O w0 pl rest (k + 1) ((d, v) :: l) N L) : Y P ops Q n O w0 pl (o :: rest) k l N L :=
  y_opV hg hd hn (fun a hF => by unfold opV; rw [ho]; exact hF.eval hx) (r_assign ho hx) hp h
theorem y_extract {x : Operand} {vs : List Value} {i : Nat} (hg : o.guard = none) (hd : o.dst = some d) (hn : Nat.blt d n = true) (ho : o.op = .extract x i) (hx : ev l x = some (.tuple vs.toArray)) (hv : nth vs i = some v) (hp : pl k = .inl (opV o)) (h : Y P ops Q n O w0 pl rest (k + 1) ((d, v) :: l) N L) : Y P ops Q n O w0 pl (o :: rest) k l N L :=
  y_opV hg hd hn (fun a hF => by unfold opV; rw [ho]; simp only [hF.eval hx]; rw [nth_eq] at hv; simp [Array.getD_eq_getD_getElem?, hv]) (r_extractL ho hx hv) hp h
def MadeS (T : TypeId) (sz : Nat) (cs : List Value) : Value → Nat → TypeId × Array Value → Prop := fun u g x => ∃ m cap, u = .slice (some ⟨g, 0, none⟩) m cap ∧ Ap sz m cap x.2 cs ∧ x.1 = T
theorem y_callN {f : FuncId} {fn : Func} {xs : Array Operand} {ts : Array TypeId} {vs : List Value} {T : TypeId} {sz m : Nat} {cs : List Value} (hf : P.funcs[f]? = some fn) (hname : (fn.name == "runtime.NumGoroutine") = false) (hb : fn.body.isSome = true) (hg : o.guard = none) (hd : o.dst = some d) (hn : Nat.blt d n = true)
    (hop : o.op = .call { callee := .value (.func f), args := xs, argTypes := ts }) (hargs : evs l xs.toList = some vs) (hc : ∀ w, Kn O w0 w L → Calls P f vs.toArray w (NewS T sz cs w)) (hlen : cs.length = m * sz) (hmx : m ≤ maxLen) (hp : pl k = .inr (MadeS T sz cs))
    (h : ∀ g m cap cur, Ap sz m cap cur cs → Y P ops Q n O w0 pl rest (k + 1) ((d, .slice (some ⟨g, 0, none⟩) m cap) :: l) ((g, T, cur) :: N) L) : Y P ops Q n O w0 pl (o :: rest) k l N L := fun a w E hF hL hE => by
  unfold CalmB.wpLex
  rw [if_pos (by simp [Region.wanted, hg])]
  unfold CalmB.pOp
  rw [hp]
  refine ⟨fun N0 => ⟨.slice (some ⟨N0, 0, none⟩) m m, N0, (T, cs.toArray), Nat.le_refl _, m, m, rfl, ⟨hlen, Nat.le_refl _, hmx, by simp [hlen], by simp [← hlen]⟩, rfl⟩, ⟨[], fun r hr => (by cases hr), fun w' hb' _ => ?_⟩, fun u g x hM hB he => ?_⟩
  · show CalmB.mkAt P o a w' _
    unfold CalmB.mkAt
    rw [run_callc (caps := []) hf hname hb hop rfl (hF.evals hargs) w']
    refine ⟨rfl, ?_⟩
    rw [List.append_nil]
    exact (hc w' (Own.ext hL hb')).mono fun e w'' ⟨g, m, cap, cur, he, hA, hge, hat, hb⟩ => ⟨_, g, (T, cur), ⟨m, cap, rfl, hA, rfl⟩, he, hge, hat, hb⟩
  · obtain ⟨m', cap, rfl, hA, hT⟩ := hM
    obtain ⟨T', cur⟩ := x
    simp only at hT hA
    subst hT
    rw [hd]
    refine h g m' cap cur hA _ w _ (hF.put hn _) hL ⟨?_, fun b hb => ?_⟩
    · simp only [List.map_cons, List.nodup_cons, List.mem_map, not_exists, not_and]
      exact ⟨fun b hb e => (by have := hE.2 b hb; rw [e, he] at this; cases this), hE.1⟩
    · rcases List.mem_cons.1 hb with rfl | hb
      · exact Calm.upd_same _ _ _
      · rw [Calm.upd_ne _ _ (fun e => by have := hE.2 b hb; rw [e, he] at this; cases this)]; exact hE.2 b hb
theorem y_gd1 {dd : Option Tmp} {op : Op} {ty : TypeId} {ps : String} {af : Array Edge} {j : Nat} {b c : Bool} {t : Nat} (hj : (ops[j]?).bind (·.dst) = some t) (ht : lk l t = some (.bool c)) (hc : c = b) (h : Y P ops Q n O w0 pl (⟨dd, op, ty, ps, af, none⟩ :: rest) k l N L) : Y P ops Q n O w0 pl (⟨dd, op, ty, ps, af, some (j, b)⟩ :: rest) k l N L := fun a w E hF hL hE => by
  have h1 := h a w E hF hL hE
  unfold CalmB.wpLex at h1 ⊢
  rw [if_pos (by rfl)] at h1
  rw [if_pos (by simp [Region.wanted, yl hF hj ht, hc])]
  unfold CalmB.pOp at h1 ⊢
  cases hp : pl k with
  | inl vf =>
    rw [hp] at h1
    refine ⟨fun a d u hd => h1.1 a d u fun t ht hm => hd t ht ?_, h1.2⟩
    unfold Oper.looksAt at hm ⊢
    exact List.mem_append.2 (.inl (by simpa using hm))
  | inr M => rw [hp] at h1; exact h1
theorem y_gd0 {op : Op} {ty : TypeId} {ps : String} {af : Array Edge} {j : Nat} {b c : Bool} {t : Nat} (hn : Nat.blt d n = true) (hj : (ops[j]?).bind (·.dst) = some t) (ht : lk l t = some (.bool c)) (hc : c = !b) (hp : pl k = .inl fun _ => undef) (h : Y P ops Q n O w0 pl rest (k + 1) ((d, undef) :: l) N L) : Y P ops Q n O w0 pl (⟨some d, op, ty, ps, af, some (j, b)⟩ :: rest) k l N L := fun a w E hF hL hE => by
  unfold CalmB.wpLex
  rw [if_neg (by simp [Region.wanted, yl hF hj ht, hc])]
  exact h _ w E (hF.put hn undef) hL hE
theorem yu {a : Act} (hF : Fr n l a) {j t : Nat} (hj : (ops[j]?).bind (·.dst) = some t) (ht : lk l t = some undef) : yielded ops a.tmps j = none := by
  unfold yielded
  rw [hj, Option.bind_some, hF.get t _ ht]; rfl
theorem x_gdu {pl : Nat → Calm.Plan} {op : Op} {ty : TypeId} {ps : String} {af : Array Edge} {j : Nat} {b : Bool} {t : Nat} (hn : Nat.blt d n = true) (hj : (ops[j]?).bind (·.dst) = some t) (ht : lk l t = some undef) (hp : pl k = .inl undef) (h : X P ops Q n O w0 pl rest (k + 1) ((d, undef) :: l) N L) : X P ops Q n O w0 pl (⟨some d, op, ty, ps, af, some (j, b)⟩ :: rest) k l N L := fun a w E hF hL hE =>
  lex_skip (o := ⟨some d, op, ty, ps, af, some (j, b)⟩) (by simp [Region.wanted, yu hF hj ht]) (h _ w E (hF.put hn undef) hL hE)
theorem y_nil (h : E Q n O w0 .normal l (N ++ L)) : Y P ops Q n O w0 pl [] k l N L := fun a w E hF hL hE => by
  unfold CalmB.wpLex
  exact fun w' hH => h a w' hF (Kn.join hL hH hE)
theorem y_nil0 (h : E Q n O w0 .normal l L) : Y P ops Q n O w0 pl [] k l [] L := y_nil h
theorem c_drawY {id : Nat} {r : List Oper} (pl : List CalmB.Plan) (hm : P.follows .mixedOrders = true) (hB : Region.lexB .any r.toArray = true) (h : Y P r.toArray Q n O w0 (fun i => pl.getD i (.inl fun _ => undef)) r 0 l [] L) : C P Q n O w0 (.region id r.toArray true) l L := fun a w hF hL =>
  CalmB.wp_region_calm pl hm hB (h a w _ hF hL ⟨by simp, fun _ hb => by cases hb⟩)
theorem y_k (kk : Nat) (ho : opk o.op = kk) (h : Y P ops Q n O w0 pl (o :: rest) k l N L) : Y P ops Q n O w0 pl (o :: rest) k l N L := h
theorem y_gd {q : Nat × Bool} (ho : o.guard = some q) (h : Y P ops Q n O w0 pl (o :: rest) k l N L) : Y P ops Q n O w0 pl (o :: rest) k l N L := h
theorem y_g (h : Y P ops Q n O w0 pl rest k l N L) : Y P ops Q n O w0 pl rest k l N L := h
end Go.Proofs.Ytnfdefeafhepkaa.Wk
namespace Go.Proofs.Ytnfdefeafhepkaa
open Go.RowKit Mem Wk
namespace Wk
open Calm
variable {P : Program} {n : Nat} {O : List Nat} {w0 : World} {l : List (Nat × Value)} {N L : List (Nat × TypeId × Array Value)} {Q : Exit → Act → World → Prop} {ops : Array Oper} {o : Oper} {rest : List Oper} {k d : Nat} {pl : Nat → CalmB.Plan} {v : Value}
end Wk
attribute [local irreducible] Calls Wk.S Wk.C Wk.E Wk.X Wk.T Wk.Y Calm.wpLex CalmB.wpLex
def fstC : List Int → Int
  | [] => 0
  | a :: l => if a = 0 then fstC l else a
theorem fstC_skip : ∀ (l : List Int) (k : Nat), (∀ j c, j < k → l[j]? = some c → c = 0) → fstC l = fstC (l.drop k)
  | l, 0, _ => rfl
  | [], k + 1, _ => by simp [fstC]
  | a :: l, k + 1, h => by
    have h0 := h 0 a (by omega) rfl
    rw [fstC, if_pos h0, List.drop_succ_cons]
    exact fstC_skip l k fun j c hj hc => h (j + 1) c (by omega) (by simpa using hc)
theorem fstC_at {l : List Int} {k : Nat} {c : Int} (h : ∀ j c, j < k → l[j]? = some c → c = 0) (hc : l[k]? = some c) (hne : ¬ c = 0) : fstC l = c := by
  rw [fstC_skip l k h]
  have hlt := (List.getElem?_eq_some_iff.1 hc).1
  rw [List.drop_eq_getElem_cons hlt, (List.getElem?_eq_some_iff.1 hc).2, fstC, if_neg hne]
theorem fstC_end {l : List Int} (h : ∀ j c, j < l.length → l[j]? = some c → c = 0) : fstC l = 0 := by
  rw [fstC_skip l l.length h, List.drop_length]; rfl
set_option maxRecDepth 100000 in
theorem firstOfL_any (l : List Int) (g : Nat) (T : TypeId) (cap : Nat) (w : World) (hn : l.length ≤ 1000) (hg : w.heap[g]? = some (.cells (l.map (Value.int .i64)).toArray T (0, 0))) :
    Calls Try.prog 48 #[.slice (some ⟨g, 0, none⟩) l.length cap] w fun e w' => e = .returned (.int .i64 (fstC l)) ∧ Below w.heap.size w w' := by
  refine enter1 Try.func48 rfl rfl rfl (Own.start w) ?_
  repeat' (first | (refine s_g ?_; first | (refine s_k 0 rfl ?_; refine zsv (r_move rfl rfl) ?_) | (refine s_k 8 rfl ?_; first | (refine' s_val rfl rfl rfl (r_ldv rfl rfl ?qm ?qv) ?_; (case qm => (exact zMm)); (case qv => (exact zLe))) | (refine' s_val rfl rfl rfl (r_ldo rfl rfl ?qw (by simp) ?qv) ?_; (case qw => assumption); (case qv => (exact zLe)))) | (refine s_k 1 rfl ?_; refine zsv (r_assign rfl rfl) ?_) | (refine s_k 13 rfl ?_; first | refine zsv (r_lss rfl rfl rfl) ?_ | refine zsv (r_neq rfl rfl rfl) ?_ | refine zsv (r_add rfl rfl rfl zWr) ?_) | (refine s_k 25 rfl ?_; first | refine zsv (r_ixN tb rfl rfl rfl rfl (by omega)) ?_ | refine zsv (r_ixA tb rfl rfl rfl rfl (by omega) (by omega)) ?_ | refine zsv (r_ixO tb rfl rfl rfl rfl (by omega)) ?_) | (refine s_k 36 rfl ?_; refine zsv (r_len tb rfl rfl rfl) ?_) | refine s_nil ?_) | (refine c_g ?_; first | refine c_seq ?_ | refine c_region ?_ | (refine c_gc ?_; first | refine c_cond1 rfl zTr ?_ | refine c_cond0 rfl zTr ?_ | refine c_condd rfl (fun hc => ?_) (fun hc => ?_) | refine c_conddn rfl (fun hc => ?_) (fun hc => ?_) | refine c_condn rfl (fun hc => ?_) (fun hc => ?_) | refine c_cond rfl (fun hc => ?_) (fun hc => ?_)) | refine c_block ?_ | refine c_skip ?_ | refine c_exit ?_ | refine c_ret ?_) | (refine e_g ?_; first | refine e_then ?_ | refine e_blkn ?_ | refine e_thenx ?_ | refine e_thenr ?_ | refine e_blkr ?_ | refine e_blkx ?_ | refine e_blky rfl ?_))
  refine c_loop (ι := Nat) (fun k => l.length - k) (fun k => k ≤ l.length ∧ ∀ j c, j < k → l[j]? = some c → c = 0) (fun k => [(7, .int .i64 (k : Int)), (6, .int .i64 (l.length : Int)), (5, .slice (some ⟨g, 0, none⟩) l.length cap)]) (fun _ => []) 0 ⟨by omega, fun j c hj => by omega⟩ ?hs rfl ?_
  case hs => (repeat' (first | exact sub_nil | refine sub_cons rfl ?_))
  rintro k ⟨hk, hF⟩
  by_cases hlt : k < l.length
  · have hx : l[k]? = some l[k] := List.getElem?_eq_getElem hlt
    have hx' : (l.map (Value.int .i64)).toArray[0 + k * 1]? = some (.int .i64 l[k]) := by simp [hx]
    generalize l[k] = c at *
    repeat' (first | (refine s_g ?_; first | (refine s_k 0 rfl ?_; refine zsv (r_move rfl rfl) ?_) | (refine s_k 8 rfl ?_; first | (refine' s_val rfl rfl rfl (r_ldv rfl rfl ?qm ?qv) ?_; (case qm => (exact zMm)); (case qv => (first | exact ldvL tb rfl rfl | exact ldv1 tb rfl (by assumption) | exact ldv1 tb rfl (hx') | exact zLd))) | (refine' s_val rfl rfl rfl (r_ldo rfl rfl ?qw (by simp) ?qv) ?_; (case qw => assumption); (case qv => (first | exact ldvL tb rfl rfl | exact ldv1 tb rfl (by assumption) | exact ldv1 tb rfl (hx') | exact zLd)))) | (refine s_k 1 rfl ?_; refine zsv (r_assign rfl rfl) ?_) | (refine s_k 13 rfl ?_; first | refine zsv (r_lss rfl rfl rfl) ?_ | refine zsv (r_neq rfl rfl rfl) ?_ | refine zsv (r_add rfl rfl rfl zWr) ?_) | (refine s_k 25 rfl ?_; first | refine zsv (r_ixO tb rfl rfl rfl rfl hlt) ?_ | refine zsv (r_ixN tb rfl rfl rfl rfl (by omega)) ?_ | refine zsv (r_ixA tb rfl rfl rfl rfl (by omega) (by omega)) ?_ | refine zsv (r_ixO tb rfl rfl rfl rfl (by omega)) ?_) | (refine s_k 36 rfl ?_; refine zsv (r_len tb rfl rfl rfl) ?_) | refine s_nil ?_) | (refine c_g ?_; first | refine c_seq ?_ | refine c_region ?_ | (refine c_gc ?_; first | refine c_cond1 rfl zTr ?_ | refine c_cond0 rfl zTr ?_ | refine c_condd rfl (fun hc => ?_) (fun hc => ?_) | refine c_conddn rfl (fun hc => ?_) (fun hc => ?_) | refine c_condn rfl (fun hc => ?_) (fun hc => ?_) | refine c_cond rfl (fun hc => ?_) (fun hc => ?_)) | refine c_block ?_ | refine c_skip ?_ | refine c_exit ?_ | refine c_ret ?_) | (refine e_g ?_; first | refine e_then ?_ | refine e_blkn ?_ | refine e_thenx ?_ | refine e_thenr ?_ | refine e_blkr ?_ | refine e_blkx ?_ | refine e_blky rfl ?_) | (refine e_ret1 (by simp) rfl (re_tmp rfl) fun w hL => ⟨by rw [fstC_at hF hx (by assumption)], hL.toBelow⟩) | (refine e_round (k + 1) (by omega) ⟨by omega, fun j d hj hd => ?_⟩ ?hs rfl; (case hs => (repeat' (first | exact sub_nil | refine sub_cons rfl ?_)))))
    all_goals
      by_cases e : j = k
      · subst e; rw [hx] at hd; injection hd with hd; subst hd; assumption
      · exact hF j d (by omega) hd
  · have hkl : k = l.length := by omega
    subst hkl
    repeat' (first | (refine s_g ?_; first | (refine s_k 0 rfl ?_; refine zsv (r_move rfl rfl) ?_) | (refine s_k 8 rfl ?_; first | (refine' s_val rfl rfl rfl (r_ldv rfl rfl ?qm ?qv) ?_; (case qm => (exact zMm)); (case qv => (exact zLe))) | (refine' s_val rfl rfl rfl (r_ldo rfl rfl ?qw (by simp) ?qv) ?_; (case qw => assumption); (case qv => (exact zLe)))) | (refine s_k 1 rfl ?_; refine zsv (r_assign rfl rfl) ?_) | (refine s_k 13 rfl ?_; first | refine zsv (r_lss rfl rfl rfl) ?_ | refine zsv (r_neq rfl rfl rfl) ?_ | refine zsv (r_add rfl rfl rfl zWr) ?_) | (refine s_k 25 rfl ?_; first | refine zsv (r_ixN tb rfl rfl rfl rfl (by omega)) ?_ | refine zsv (r_ixA tb rfl rfl rfl rfl (by omega) (by omega)) ?_ | refine zsv (r_ixO tb rfl rfl rfl rfl (by omega)) ?_) | (refine s_k 36 rfl ?_; refine zsv (r_len tb rfl rfl rfl) ?_) | refine s_nil ?_) | (refine c_g ?_; first | refine c_seq ?_ | refine c_region ?_ | (refine c_gc ?_; first | refine c_cond1 rfl zTr ?_ | refine c_cond0 rfl zTr ?_ | refine c_condd rfl (fun hc => ?_) (fun hc => ?_) | refine c_conddn rfl (fun hc => ?_) (fun hc => ?_) | refine c_condn rfl (fun hc => ?_) (fun hc => ?_) | refine c_cond rfl (fun hc => ?_) (fun hc => ?_)) | refine c_block ?_ | refine c_skip ?_ | refine c_exit ?_ | refine c_ret ?_) | (refine e_g ?_; first | refine e_then ?_ | refine e_blkn ?_ | refine e_thenx ?_ | refine e_thenr ?_ | refine e_blkr ?_ | refine e_blkx ?_ | refine e_blky rfl ?_) | (refine e_ret1 (by simp) rfl (re_tmp rfl) fun w hL => ⟨by rw [fstC_end hF], hL.toBelow⟩))
theorem fo2 {a b : Int} {g cap : Nat} {T : TypeId} {w : World} (hg : w.heap[g]? = some (.cells #[.int .i64 a, .int .i64 b] T (0, 0))) : Calls Try.prog 48 #[.slice (some ⟨g, 0, none⟩) 2 cap] w fun e w' => e = .returned (.int .i64 (fstC [a, b])) ∧ Below w.heap.size w w' := firstOfL_any [a, b] g T cap w (by simp) hg
theorem fo3 {a b c : Int} {g cap : Nat} {T : TypeId} {w : World} (hg : w.heap[g]? = some (.cells #[.int .i64 a, .int .i64 b, .int .i64 c] T (0, 0))) : Calls Try.prog 48 #[.slice (some ⟨g, 0, none⟩) 3 cap] w fun e w' => e = .returned (.int .i64 (fstC [a, b, c])) ∧ Below w.heap.size w w' := firstOfL_any [a, b, c] g T cap w (by simp) hg
theorem fo2v {a b c : Int} {g cap : Nat} {T : TypeId} {w : World} (hc : fstC [a, b] = c) (hg : w.heap[g]? = some (.cells #[.int .i64 a, .int .i64 b] T (0, 0))) : Calls Try.prog 48 #[.slice (some ⟨g, 0, none⟩) 2 cap] w fun e w' => e = .returned (.int .i64 c) ∧ Below w.heap.size w w' := by rw [← hc]; exact fo2 hg
theorem slInt3 (a b c : Int) (w : World) : (Instr.buildSlice 56 3 #[(0, .int .i64 a), (1, .int .i64 b), (2, .int .i64 c)]).run Try.prog w = .ok (.slice (some ⟨w.heap.size, 0, none⟩) 3 3) (w.alloc (.cells #[.int .i64 a, .int .i64 b, .int .i64 c] 2 (0, 0))) := by kernel_rfl
end Go.Proofs.Ytnfdefeafhepkaa
namespace Go.Proofs.Ytnfdefeafhepkaa
open Go.RowKit Mem Wk
attribute [local irreducible] Calls Wk.S Wk.C Wk.E Wk.X Wk.T Wk.Y Wk.anV Wk.orV Wk.andV Wk.shlV Wk.shrV Calm.wpLex CalmB.wpLex bfsN
structure GB (f : Nat → Bool) (cs : Array Value) : Prop where
  size : cs.size = 100
  get : ∀ j, j < 100 → cs[j]? = some (.bool (f j))
theorem GB.at_ {f : Nat → Bool} {cs : Array Value} (h : GB f cs) {x y : Nat} (hx : x < 10) (hy : y < 10) : cs[0 + y * 10 + x * 1]? = some (.bool (f (ci ⟨(x : Int), (y : Int)⟩))) := by
  have e : 0 + y * 10 + x * 1 = ci ⟨(x : Int), (y : Int)⟩ := by unfold ci; simp
  rw [e]; exact h.get _ (ci_lt ⟨by show (0 : Int) ≤ (x : Int); omega, by show (x : Int) < 10; omega, by show (0 : Int) ≤ (y : Int); omega, by show (y : Int) < 10; omega⟩)
theorem GB.one {f : Nat → Bool} {cs : Array Value} (h : GB f cs) : ∀ u ∈ cs.toList, u.oneCell' = true := by
  intro u hu
  obtain ⟨j, hj⟩ := List.mem_iff_getElem?.1 hu
  rw [Array.getElem?_toList] at hj
  have hlt := (Array.getElem?_eq_some_iff.1 hj).1
  rw [h.size] at hlt
  rw [h.get j hlt] at hj
  injection hj with hj; subst hj; rfl
theorem GB.uniq {f : Nat → Bool} {a b : Array Value} (h : GB f a) (h' : GB f b) : a = b := by
  apply Array.ext (by rw [h.size, h'.size])
  intro i h1 h2
  have e1 := h.get i (by rw [h.size] at h1; exact h1)
  have e2 := h'.get i (by rw [h'.size] at h2; exact h2)
  rw [Array.getElem?_eq_getElem h1] at e1
  rw [Array.getElem?_eq_getElem h2] at e2
  injection e1 with e1; injection e2 with e2; rw [e1, e2]
theorem GB.congr {f g : Nat → Bool} {cs : Array Value} (h : GB f cs) (he : ∀ j, j < 100 → f j = g j) : GB g cs := ⟨h.size, fun j hj => by rw [← he j hj]; exact h.get j hj⟩
def upto (f : Nat → Bool) (n : Nat) : Nat → Bool := fun j => decide (j < n) && f j
theorem GB.put {f : Nat → Bool} {cs : Array Value} {x y : Nat} {b : Bool} (h : GB (upto f (y * 10 + x)) cs) (hx : x < 10) (hy : y < 10) (hb : b = f (ci ⟨(x : Int), (y : Int)⟩)) : GB (upto f (y * 10 + (x + 1))) (cs.setIfInBounds (0 + y * 10 + x * 1) (.bool b)) := by
  have e : 0 + y * 10 + x * 1 = y * 10 + x := by omega
  have e2 : ci ⟨(x : Int), (y : Int)⟩ = y * 10 + x := by unfold ci; simp
  rw [e]; rw [e2] at hb; subst hb
  refine ⟨by simp [h.size], fun j hj => ?_⟩
  by_cases ej : j = y * 10 + x
  · subst ej
    have hs := h.size
    simp [hs, hj, upto]
  · rw [Array.getElem?_setIfInBounds_ne (by omega), h.get j hj]
    show some (Value.bool (decide (j < y * 10 + x) && f j)) = some (Value.bool (decide (j < y * 10 + (x + 1)) && f j))
    rw [show decide (j < y * 10 + x) = decide (j < y * 10 + (x + 1)) from decide_eq_decide.2 (by omega)]
set_option maxRecDepth 100000 in
theorem farAt_any (D : Nat → Int) (tab : Array Value) (T : TypeId) (g : Nat) (x y : Int) (w : World) (hT : GI .i16 1 D tab) (hD : ∀ j, 0 ≤ D j ∧ D j ≤ 101) (hg : w.heap[g]? = some (.cells tab T (0, 0))) (hx : 0 ≤ x ∧ x < 10) (hy : 0 ≤ y ∧ y < 10) :
    Calls Try.prog 142 #[.pointer (some ⟨g, 0, none⟩), .agg #[.int .i8 x, .int .i8 y]] w fun e w' => e = .returned (.int .i64 (D (ci ⟨x, y⟩) - 1)) ∧ Below w.heap.size w w' := by
  have hb := hD (ci ⟨x, y⟩)
  refine enter2 Try.func142 rfl rfl rfl (Own.start w) ?_
  repeat' (first | (refine s_g ?_; first | (refine s_k 0 rfl ?_; refine zsv (r_move rfl rfl) ?_) | (refine s_k 23 rfl ?_; first | refine zsv (r_field tb rfl rfl rfl) ?_ | refine zsv (r_fieldS tb rfl rfl rfl) ?_) | (refine s_k 8 rfl ?_; first | (refine' s_val rfl rfl rfl (r_ldv rfl rfl ?qm ?qv) ?_; (case qm => (exact zMm)); (case qv => (first | exact ldvL tb rfl rfl | exact ldv1 tb rfl (by assumption) | exact ldv1 tb rfl (hT.at_ hx hy) | exact zLd))) | (refine' s_val rfl rfl rfl (r_ldo rfl rfl ?qw (by simp) ?qv) ?_; (case qw => assumption); (case qv => (first | exact ldvL tb rfl rfl | exact ldv1 tb rfl (by assumption) | exact ldv1 tb rfl (hT.at_ hx hy) | exact zLd)))) | (refine s_k 1 rfl ?_; refine zsv (r_assign rfl rfl) ?_) | (refine s_k 15 rfl ?_; refine zsv (r_conv tb rfl rfl rfl rfl zWr) ?_) | (refine s_k 25 rfl ?_; first | refine zsv (r_ixN tb rfl rfl rfl rfl (by omega)) ?_ | refine zsv (r_ixA tb rfl rfl rfl rfl (by omega) (by omega)) ?_ | refine zsv (r_ixO tb rfl rfl rfl rfl (by omega)) ?_) | (refine s_k 4 rfl ?_; first | refine s_boxA rfl rfl rfl rfl rfl fun blk => ?_ | refine s_box1 rfl rfl rfl rfl rfl rfl fun blk => ?_) | (refine s_k 12 rfl ?_; refine zsv (r_nil rfl rfl) ?_) | refine s_nil ?_) | (refine c_g ?_; first | refine c_seq ?_ | refine c_region ?_ | (refine c_gc ?_; first | refine c_cond1 rfl zTr ?_ | refine c_cond0 rfl zTr ?_) | refine c_block ?_ | refine c_skip ?_ | refine c_exit ?_ | refine c_ret ?_) | (refine e_g ?_; first | refine e_then ?_ | refine e_blkn ?_ | refine e_thenx ?_ | refine e_thenr ?_ | refine e_blkr ?_ | refine e_blkx ?_ | refine e_blky rfl ?_) | (refine x_g ?_; first | (refine x_k 0 rfl ?_; (refine zxv (r_move rfl rfl) ?hp ?_; (case hp => exact rfl))) | (refine x_k 23 rfl ?_; first | (refine zxv (r_field tb rfl rfl rfl) ?hp ?_; (case hp => exact rfl)) | (refine zxv (r_fieldS tb rfl rfl rfl) ?hp ?_; (case hp => exact rfl))) | (refine x_k 8 rfl ?_; first | (refine' x_val rfl rfl rfl (r_ldv rfl rfl ?qm ?qv) ?hp ?_; (case qm => (exact zMm)); (case qv => (first | exact ldvL tb rfl rfl | exact ldv1 tb rfl (by assumption) | exact ldv1 tb rfl (hT.at_ hx hy) | exact zLd)); (case hp => exact rfl)) | (refine' x_val rfl rfl rfl (r_ldo rfl rfl ?qw (by simp) ?qv) ?hp ?_; (case qw => assumption); (case qv => (first | exact ldvL tb rfl rfl | exact ldv1 tb rfl (by assumption) | exact ldv1 tb rfl (hT.at_ hx hy) | exact zLd)); (case hp => exact rfl))) | (refine x_k 1 rfl ?_; (refine zxv (r_assign rfl rfl) ?hp ?_; (case hp => exact rfl))) | (refine x_k 15 rfl ?_; (refine zxv (r_conv tb rfl rfl rfl rfl zWr) ?hp ?_; (case hp => exact rfl))) | (refine x_k 25 rfl ?_; first | (refine zxv (r_ixN tb rfl rfl rfl rfl (by omega)) ?hp ?_; (case hp => exact rfl)) | (refine zxv (r_ixA tb rfl rfl rfl rfl (by omega) (by omega)) ?hp ?_; (case hp => exact rfl)) | (refine zxv (r_ixO tb rfl rfl rfl rfl (by omega)) ?hp ?_; (case hp => exact rfl))) | (refine x_k 4 rfl ?_; (refine x_boxA rfl rfl rfl rfl rfl ?hp (fun blk => ?_); (case hp => exact rfl))) | (refine x_k 12 rfl ?_; (refine zxv (r_nil rfl rfl) ?hp ?_; (case hp => exact rfl))) | refine x_nil0 ?_ | refine x_nil ?_) | (refine' c_drawX (id := 1) [(.inl _ : zQ), (.inl _ : zQ), (.inl _ : zQ), (.inl _ : zQ), (.inl _ : zQ), (.inl _ : zQ), (.inl _ : zQ), (.inl _ : zQ), (.inl _ : zQ), (.inl _ : zQ), (.inl _ : zQ)] (by kernel_rfl) (by kernel_rfl) (by kernel_rfl) ?_) | (refine e_ret1 (by simp) rfl (re_tmp rfl) fun w hL => ⟨rfl, hL.toBelow⟩))
def NewS2 (T : TypeId) (sz : Nat) (xs : List Value) (c : Int) (w : World) (e : Ending) (w' : World) : Prop := ∃ g k cap cur, e = .returned (.tuple #[.slice (some ⟨g, 0, none⟩) k cap, .int .i64 c]) ∧ Ap sz k cap cur xs ∧ w.heap.size ≤ g ∧ w'.heap[g]? = some (.cells cur T (0, 0)) ∧ Below w.heap.size w w'
theorem NewS2.of {T : TypeId} {sz k cap g : Nat} {c : Int} {xs : List Value} {cur : Array Value} {w0 w : World} {L : List (Nat × TypeId × Array Value)} (hA : Ap sz k cap cur xs) (hL : Kn [] w0 w L) (hm : (g, T, cur) ∈ L) : NewS2 T sz xs c w0 (.returned (.tuple #[.slice (some ⟨g, 0, none⟩) k cap, .int .i64 c])) w :=
  ⟨g, k, cap, cur, rfl, hA, (hL.low _ hm).resolve_right (by simp), hL.has _ hm, hL.toBelow⟩
theorem s_callN2 {P : Program} {ops : Array Oper} {Q : Exit → Act → World → Prop} {n : Nat} {O : List Nat} {w0 : World} {o : Oper} {rest : List Oper} {l : List (Nat × Value)} {L : List (Nat × TypeId × Array Value)} {f : FuncId} {fn : Func} {xs : Array Operand} {ts : Array TypeId} {vs : List Value} {d : Nat} {T : TypeId} {sz : Nat} {cs : List Value} {c : Int} (hf : P.funcs[f]? = some fn) (hname : (fn.name == "runtime.NumGoroutine") = false) (hb : fn.body.isSome = true) (hg : o.guard = none) (hd : o.dst = some d) (hn : Nat.blt d n = true)
    (hop : o.op = .call { callee := .value (.func f), args := xs, argTypes := ts }) (hargs : evs l xs.toList = some vs) (hc : ∀ w, Kn O w0 w L → Calls P f vs.toArray w (NewS2 T sz cs c w)) (h : ∀ g k cap cur, Ap sz k cap cur cs → S P ops Q n O w0 rest ((d, .tuple #[.slice (some ⟨g, 0, none⟩) k cap, .int .i64 c]) :: l) ((g, T, cur) :: L)) : S P ops Q n O w0 (o :: rest) l L :=
  s_callR (ι := Nat × Nat × Nat × Array Value) (fun i => Ap sz i.2.1 i.2.2.1 i.2.2.2 cs) (fun i => .tuple #[.slice (some ⟨i.1, 0, none⟩) i.2.1 i.2.2.1, .int .i64 c]) (fun i => (i.1, T, i.2.2.2) :: L) hf hname hb hg hd hn hop hargs
    (fun w hL => (hc w hL).mono fun e w' ⟨g, k, cap, cur, he, hA, hge, hat, hb⟩ => ⟨(g, k, cap, cur), hA, he, Own.add hL hb hge hat⟩) (fun ⟨g, k, cap, cur⟩ hA => h g k cap cur hA)
end Go.Proofs.Ytnfdefeafhepkaa
namespace Go.Proofs.Ytnfdefeafhepkaa
open Go.RowKit Mem Wk
attribute [local irreducible] Calls Wk.S Wk.C Wk.E Wk.X Wk.T Wk.Y Wk.anV Wk.orV Wk.andV Wk.shlV Wk.shrV Calm.wpLex CalmB.wpLex bfsN
theorem one_slA (o : Sp) {w : World} {b : Nat} {T : TypeId} (h : w.heap[b]? = some (.cells #[.int .i8 o.x, .int .i8 o.y] T (0, 0))) : SlA [] w 2 (some ⟨b, 0, none⟩) ([o].map Sp.cells) := by
  have hA : Ap 2 1 1 #[.int .i8 o.x, .int .i8 o.y] (([o].map Sp.cells).flatten) := ⟨rfl, Nat.le_refl _, by unfold maxLen; simp, rfl, rfl⟩
  exact hA.slA (lenSp [o]) h
theorem dims {p : Nat → Int} {x y : Int} (ha : p 0 ≤ 10) (hb : p 1 ≤ 10) (hc : isC (p 0) (p 1) x y = true) : p 0 = ((p 0).toNat : Int) ∧ p 1 = ((p 1).toNat : Int) ∧ (p 0).toNat ≤ 10 ∧ (p 1).toNat ≤ 10 := by
  unfold isC inB at hc; simp at hc; omega
def pasL (p : Nat → Int) (f : Sp → Bool) : List Sp := cellL f (p 0).toNat ((p 1).toNat * (p 0).toNat)
theorem one_isC {p : Nat → Int} {o : Sp} (h : isC (p 0) (p 1) o.x o.y = true) : ∀ c ∈ [o], isC (p 0) (p 1) c.x c.y = true := fun c hc => by simp at hc; subst hc; exact h
def strD (p : Nat → Int) (o : Sp) : Nat → Int := (stepsP p [o]).1
theorem strD_val (p : Nat → Int) {o : Sp} (h : inR o) (j : Nat) : 0 ≤ strD p o j ∧ strD p o j ≤ 101 := stepsP_val p (fun c hc => by simp at hc; subst hc; exact h) j
end Go.Proofs.Ytnfdefeafhepkaa
