import Derived.Shelf.SlSortCmp.WholeK
import Derived.Test.YtnafnhpajkhgkaaProg
import Derived.Test.YtnafnhpajkhgkaaQY17
import Derived.Test.YtnafnhpajkhgkaaQY30
import Derived.Test.YtnafnhpajkhgkaaQY31
/- The comparison of hurdles, for the library's sort: it draws and makes blocks, and changes nothing. No condition. -/
namespace Go.Proofs.Ytnafnhpajkhgkaa
set_option linter.unusedVariables false
set_option linter.unusedSimpArgs false
open Go.RowKit Mem Wk Go.Sort
attribute [local irreducible] Calm.wpLex
namespace Wk
open CalmBD (BelowD)
variable {P : Program} {n : Nat} {w0 : World} {l : List (Nat × Value)} {N : List (Nat × TypeId × Array Value)} {Q : Act → World → Prop} {ops : Array Oper} {o : Oper} {rest : List Oper} {k d : Nat} {pl : Nat → CalmBD.Plan} {v : Value}
/-- the walk in a drawn region that keeps the count of draws in sight -/
def Yd (P : Program) (ops : Array Oper) (Q : Act → World → Prop) (n : Nat) (w0 : World) (pl : Nat → CalmBD.Plan) (rest : List Oper) (k : Nat) (l : List (Nat × Value)) (N : List (Nat × TypeId × Array Value)) : Prop :=
  ∀ a E, Fr n l a → Md E N → CalmBD.wpLex P ops w0.heap.size w0 pl (fun a' E' => ∀ w', CalmBD.Holds w0.heap.size w0 E' w' → Q a' w') rest k a E
theorem yd_val (hr : Rn P n [] w0 l [] o v) (hg : o.guard = none) (hd : o.dst = some d) (hn : Nat.blt d n = true) (hp : pl k = .inl fun _ => v) (h : Yd P ops Q n w0 pl rest (k + 1) ((d, v) :: l) N) : Yd P ops Q n w0 pl (o :: rest) k l N := fun a E hF hE => by
  unfold CalmBD.wpLex
  rw [if_pos (by simp [Region.wanted, hg])]
  unfold CalmBD.pOp
  rw [hp]
  refine ⟨fun _ _ _ _ => rfl, ⟨[], fun r hr => (by cases hr), fun w' hb _ => ?_⟩, by rw [hd]; exact h _ E (hF.put hn v) hE⟩
  show CalmBD.calmAt P o a w' v
  unfold CalmBD.calmAt; rw [hr a w' hF (Own.ext (Own.start w0) hb.below)]; exact ⟨rfl, rfl⟩
theorem yd_call {f : FuncId} {fn : Func} {xs : Array Operand} {ts : Array TypeId} {vs : List Value} (hop : o.op = .call { callee := .value (.func f), args := xs, argTypes := ts }) (hargs : evs l xs.toList = some vs) (hc : ∀ w, Calls P f vs.toArray w fun e w' => e = .returned v ∧ BelowD w.heap.size w w')
    (hf : P.funcs[f]? = some fn) (hname : (fn.name == "runtime.NumGoroutine") = false) (hb : fn.body.isSome = true) (hg : o.guard = none) (hd : o.dst = some d) (hn : Nat.blt d n = true)
    (hp : pl k = .inl fun _ => v) (h : Yd P ops Q n w0 pl rest (k + 1) ((d, v) :: l) N) : Yd P ops Q n w0 pl (o :: rest) k l N := fun a E hF hE => by
  unfold CalmBD.wpLex
  rw [if_pos (by simp [Region.wanted, hg])]
  unfold CalmBD.pOp
  rw [hp]
  refine ⟨fun _ _ _ _ => rfl, ⟨[], fun r hr => (by cases hr), fun w' hb' _ => ?_⟩, by rw [hd]; exact h _ E (hF.put hn v) hE⟩
  show CalmBD.calmAt P o a w' v
  unfold CalmBD.calmAt
  rw [run_callc (caps := []) hf hname hb hop rfl (hF.evals hargs) w']
  refine ⟨rfl, ?_⟩
  rw [List.append_nil]
  exact hc w'
theorem yd_rd {f : FuncId} {fn : Func} {xs : Array Operand} {ts : Array TypeId} {vs : List Value} {g off m cap : Nat} {T : TypeId} {cs : Array Value} {x : Operand} (hop : o.op = .call { callee := .value (.func f), args := xs, argTypes := ts }) (hargs : evs l xs.toList = some vs) (hm : (g, T, cs) ∈ N) (hx : x ∈ xs.toList) (hv : ev l x = some (.slice (some ⟨g, off, none⟩) m cap))
    (hc : ∀ w, w.heap[g]? = some (.cells cs T (0, 0)) → Calls P f vs.toArray w fun e w' => e = .returned v ∧ BelowD w.heap.size w w') (hf : P.funcs[f]? = some fn) (hname : (fn.name == "runtime.NumGoroutine") = false) (hb : fn.body.isSome = true) (hg : o.guard = none) (hd : o.dst = some d) (hn : Nat.blt d n = true)
    (hp : pl k = .inl fun _ => v) (h : Yd P ops Q n w0 pl rest (k + 1) ((d, v) :: l) N) : Yd P ops Q n w0 pl (o :: rest) k l N := fun a E hF hE => by
  unfold CalmBD.wpLex
  rw [if_pos (by simp [Region.wanted, hg])]
  unfold CalmBD.pOp
  rw [hp]
  refine ⟨fun _ _ _ _ => rfl, ⟨[(g, T, cs)], fun r hr => ?_, fun w' hb' hR => ?_⟩, by rw [hd]; exact h _ E (hF.put hn v) hE⟩
  · have e : r = (g, T, cs) := by simpa using hr
    subst e
    exact ⟨ment_arg hop hF hx hv, hE.2 _ hm⟩
  · show CalmBD.calmAt P o a w' v
    obtain ⟨hB, hH⟩ := hR _ (List.mem_singleton.2 rfl)
    unfold CalmBD.calmAt
    rw [run_callc (caps := []) hf hname hb hop rfl (hF.evals hargs) w']
    refine ⟨rfl, ?_⟩
    rw [List.append_nil]
    exact hc w' hH
def BslD (T : TypeId) (len : Nat) (cs : Array Value) : Value → Nat → TypeId × Array Value → Prop := fun u g x => u = .slice (some ⟨g, 0, none⟩) len len ∧ x = (T, cs)
theorem yd_bsl {t : TypeId} {len : Nat} {T : TypeId} {cs : Array Value} {parts : Array (Nat × Operand)} {ps : List (Nat × Value)} (ho : o.op = .buildSlice t len parts) (hp : evp l parts.toList = some ps) (hr : ∀ w, (Instr.buildSlice t len ps.toArray).run P w = .ok (.slice (some ⟨w.heap.size, 0, none⟩) len len) (w.alloc (.cells cs T (0, 0))))
    (hg : o.guard = none) (hd : o.dst = some d) (hn : Nat.blt d n = true) (hpl : pl k = .inr (BslD T len cs)) (h : ∀ g, Yd P ops Q n w0 pl rest (k + 1) ((d, .slice (some ⟨g, 0, none⟩) len len) :: l) ((g, T, cs) :: N)) : Yd P ops Q n w0 pl (o :: rest) k l N := fun a E hF hE => by
  unfold CalmBD.wpLex
  rw [if_pos (by simp [Region.wanted, hg])]
  unfold CalmBD.pOp
  rw [hpl]
  refine ⟨fun N0 => ⟨.slice (some ⟨N0, 0, none⟩) len len, N0, (T, cs), Nat.le_refl _, rfl, rfl⟩, ⟨[], fun r hr => (by cases hr), fun w' hb' _ => ?_⟩, fun u g x hM hB he => ?_⟩
  · show CalmBD.mkAt P o a w' _
    have e : parts.map (fun p => (p.1, a.eval p.2)) = ps.toArray := by rw [← hF.evp hp]; apply Array.ext'; simp
    have e' : (parts.map fun x => match x with | (i, x) => (i, a.eval x)) = ps.toArray := e
    have hx : (execOp a.eval o).run P w' = .ok (.value (.slice (some ⟨w'.heap.size, 0, none⟩) len len)) (w'.alloc (.cells cs T (0, 0))) := by simp [execOp, ho, e', hr]
    unfold CalmBD.mkAt
    rw [hx]
    exact ⟨w'.heap.size, (T, cs), ⟨rfl, rfl⟩, Nat.le_refl _, (Own.new (Own.start w') T cs).has _ (by simp), (Own.new (Own.start w') T cs).toBelow, Nat.le_refl _⟩
  · obtain ⟨rfl, rfl⟩ := hM
    rw [hd]
    refine h g _ _ (hF.put hn _) ⟨?_, fun b hb => ?_⟩
    · simp only [List.map_cons, List.nodup_cons, List.mem_map, not_exists, not_and]
      exact ⟨fun b hb e => (by have := hE.2 b hb; rw [e, he] at this; cases this), hE.1⟩
    · rcases List.mem_cons.1 hb with rfl | hb
      · exact Calm.upd_same _ _ _
      · rw [Calm.upd_ne _ _ (fun e => by have := hE.2 b hb; rw [e, he] at this; cases this)]; exact hE.2 b hb
theorem yd_nil (h : ∀ a' w', Fr n l a' → BelowD w0.heap.size w0 w' → Q a' w') : Yd P ops Q n w0 pl [] k l N := fun a E hF hE w' hH => h a w' hF hH.below
end Wk
open CalmBD (BelowD)
theorem same_D {P : Program} {f : FuncId} {args : Array Value} {w : World} {v : Value} (h : Calls P f args w fun e w' => e = .returned v ∧ w' = w) : Calls P f args w fun e w' => e = .returned v ∧ BelowD w.heap.size w w' :=
  h.mono fun _ _ ⟨he, hw⟩ => ⟨he, by rw [hw]; exact ⟨Below.refl _ _, Nat.le_refl _⟩⟩
theorem or_any (a b : Int) (g : Nat) (W : World) (hg : W.heap[g]? = some (.cells #[.int .i64 a, .int .i64 b] 3 (0, 0))) :
    Calls Try.prog 100 #[.slice (some ⟨g, 0, none⟩) 2 2] W fun e w' => e = .returned (.int .i64 (if a = 0 then b else a)) ∧ w' = W := by
  have c0 : W.cell? ⟨g, 0, none⟩ = some (.int .i64 a) := by unfold World.cell?; simp [hg]
  have c1 : W.cell? ⟨g, 1, none⟩ = some (.int .i64 b) := by unfold World.cell?; simp [hg]
  go_enter Try.func100, Try.ntmps100
  go_wp2
  go_loopg [8] 2 (fun n i wr => ∃ (k : Nat), k ≤ 2 ∧ n = 2 - k ∧ i = .int .i64 k ∧ wr = W ∧ Hid (0 < k → a = 0) ∧ Hid (1 < k → b = 0))
  case atStart => exact ⟨0, by omega, rfl, rfl, rfl, fun h => by omega, fun h => by omega⟩
  case round =>
    obtain ⟨k, hk, rfl, rfl, rfl, H0, H1⟩ := hrel
    rcases k with _ | _ | k
    · by_cases ha : a = 0
      · subst ha
        go_wp2
        go_roundg (2 - (0 + 1))
        case measure => omega
        case rel => exact ⟨1, by omega, rfl, rfl, rfl, fun _ => by trivial, fun h => by omega⟩
      · go_wp2
        go_ret
        exact ⟨by simp [*], rfl⟩
    · have ha := H0.out (by omega)
      subst ha
      by_cases hb : b = 0
      · subst hb
        go_wp2
        go_roundg (2 - (1 + 1))
        case measure => omega
        case rel => exact ⟨2, by omega, rfl, rfl, rfl, fun _ => by trivial, fun _ => by trivial⟩
      · go_wp2
        go_ret
        exact ⟨by simp [*], rfl⟩
    · obtain rfl : k = 0 := by omega
      have ha := H0.out (by omega)
      have hb := H1.out (by omega)
      subst ha; subst hb
      go_wp2
      go_ret
      exact ⟨by simp [*], rfl⟩
theorem nan_any (b : Int) (W : World) : Calls Try.prog 119 #[.int .i64 b] W fun e w' => e = .returned (.bool false) ∧ w' = W := by
  go_enter Try.func119, Try.ntmps119
  go_wp2; go_ret; exact ⟨rfl, rfl⟩
set_option maxRecDepth 100000 in
theorem cmp_any (a b : Int) (W : World) :
    Calls Try.prog 101 #[.int .i64 a, .int .i64 b] W fun e w' => e = .returned (.int .i64 (if a < b then -1 else if b < a then 1 else 0)) ∧ w' = W := by
  have hn := fun W => nan_any a W
  have hm := fun W => nan_any b W
  by_cases h1 : a < b
  · rw [show (if a < b then (-1 : Int) else if b < a then 1 else 0) = -1 from if_pos h1]
    go_enter Try.func101, Try.ntmps101
    go_wp2_with (go_at_call 119; first | (refine (hn _).mono ?_; rintro e w' ⟨rfl, rfl⟩) | (refine (hm _).mono ?_; rintro e w' ⟨rfl, rfl⟩))
    go_ret
    exact ⟨rfl, rfl⟩
  · rw [show (if a < b then (-1 : Int) else if b < a then 1 else 0) = if b < a then 1 else 0 from if_neg h1]
    by_cases h2 : b < a
    · rw [show (if b < a then (1 : Int) else 0) = 1 from if_pos h2]
      go_enter Try.func101, Try.ntmps101
      go_wp2_with (go_at_call 119; first | (refine (hn _).mono ?_; rintro e w' ⟨rfl, rfl⟩) | (refine (hm _).mono ?_; rintro e w' ⟨rfl, rfl⟩))
      go_ret
      exact ⟨rfl, rfl⟩
    · rw [show (if b < a then (1 : Int) else 0) = 0 from if_neg h2]
      go_enter Try.func101, Try.ntmps101
      go_wp2_with (go_at_call 119; first | (refine (hn _).mono ?_; rintro e w' ⟨rfl, rfl⟩) | (refine (hm _).mono ?_; rintro e w' ⟨rfl, rfl⟩))
      go_ret
      exact ⟨rfl, rfl⟩
theorem bit_same (b : Bool) (W : World) : Calls Try.prog 94 #[.bool b] W fun e w' => e = .returned (.int .i64 (if b then 1 else 0)) ∧ w' = W := by
  cases b <;> (go_enter Try.func94, Try.ntmps94; go_wp2; go_ret; exact ⟨rfl, rfl⟩)
theorem cmH_or (x1 y1 x2 y2 : Int) (s1 s2 : Bool) : (if (if y1 = y2 then x1 - x2 else y1 - y2) = 0 then (if (if s1 then (1 : Int) else 0) < (if s2 then 1 else 0) then -1 else if (if s2 then (1 : Int) else 0) < (if s1 then 1 else 0) then 1 else 0) else (if y1 = y2 then x1 - x2 else y1 - y2)) = cmH ⟨x1, y1, s1⟩ ⟨x2, y2, s2⟩ := by
  unfold cmH
  simp only
  by_cases h1 : y1 = y2
  · by_cases h2 : x1 = x2
    · cases s1 <;> cases s2 <;> simp [h1, h2]
    · have : x1 - x2 ≠ 0 := by omega
      simp [h1, h2, this]
  · have : y1 - y2 ≠ 0 := by omega
    simp [h1, this]
theorem al_1 (W : World) (a b : Obj) : ((W.alloc a).alloc b).heap[W.heap.size]? = some a := by
  show ((W.heap.push a).push b)[W.heap.size]? = some a
  rw [Array.getElem?_push, if_neg (by simp), Array.getElem?_push, if_pos rfl]
theorem al_2 (W : World) (a b : Obj) : ((W.alloc a).alloc b).heap[W.heap.size + 1]? = some b := by
  show ((W.heap.push a).push b)[W.heap.size + 1]? = some b
  rw [Array.getElem?_push, if_pos (by simp)]
theorem al_3 (W : World) (a b : Obj) : BelowD W.heap.size W ((W.alloc a).alloc b) := ⟨((Below.refl _ _).alloc (Nat.le_refl _) _).alloc (by show W.heap.size ≤ (W.heap.push a).size; simp) _, Nat.le_refl _⟩
theorem slInts2 (a b : Int) (w : World) : (Instr.buildSlice 160 2 #[(0, .int .i64 a), (1, .int .i64 b)]).run Try.prog w = .ok (.slice (some ⟨w.heap.size, 0, none⟩) 2 2) (w.alloc (.cells #[.int .i64 a, .int .i64 b] 3 (0, 0))) := by kernel_rfl
set_option maxRecDepth 100000 in
set_option maxHeartbeats 1000000 in
theorem cmpH_grow (x y : HdR) (W : World) :
    Calls Try.prog 68 #[.agg (encH x).toArray, .agg (encH y).toArray] W fun e w' => e = .returned (.int .i64 (cfH x y)) ∧ ∃ q os', w' = grow (W.drewN q) os' := by
  obtain ⟨⟨x1, y1, s1⟩, h1⟩ := x
  obtain ⟨⟨x2, y2, s2⟩, h2⟩ := y
  unfold hdI at h1 h2
  simp only at h1 h2
  have hsp : ∀ w, Calls Try.prog 54 #[.agg #[.int .i8 x1, .int .i8 y1], .agg #[.int .i8 x2, .int .i8 y2]] w fun e w' => e = .returned (.int .i64 (if y1 = y2 then x1 - x2 else y1 - y2)) ∧ BelowD w.heap.size w w' := fun w =>
    (cmpS_grow ⟨⟨x1, y1⟩, by unfold inR; simp only; omega⟩ ⟨⟨x2, y2⟩, by unfold inR; simp only; omega⟩ w).mono fun _ _ ⟨he, q, os, hw⟩ => ⟨he, by rw [hw]; exact BelowD.of_grow q os⟩
  have hb := fun b w => same_D (bit_same b w)
  have hc := fun a b w => same_D (cmp_any a b w)
  have ho := fun a b g w hg => same_D (or_any a b g w hg)
  show Calls Try.prog 68 #[.agg #[.int .i8 x1, .int .i8 y1, .bool s1], .agg #[.int .i8 x2, .int .i8 y2, .bool s2]] W fun e w' => e = .returned (.int .i64 (cmH ⟨x1, y1, s1⟩ ⟨x2, y2, s2⟩)) ∧ ∃ q os', w' = grow (W.drewN q) os'
  rw [← cmH_or]
  go_enter Try.func68, Try.ntmps68
  go_wp2
  rename_i K hK
  have e1 : ((W.alloc (Obj.cells #[Value.int IntKind.i8 x1, Value.int IntKind.i8 y1, Value.bool s1] 66 (0, 0))).alloc (Obj.cells #[Value.int IntKind.i8 x2, Value.int IntKind.i8 y2, Value.bool s2] 66 (0, 0))).heap[W.heap.size]? = some (.cells #[Value.int IntKind.i8 x1, Value.int IntKind.i8 y1, Value.bool s1] 66 (0, 0)) := al_1 _ _ _
  have e2 : ((W.alloc (Obj.cells #[Value.int IntKind.i8 x1, Value.int IntKind.i8 y1, Value.bool s1] 66 (0, 0))).alloc (Obj.cells #[Value.int IntKind.i8 x2, Value.int IntKind.i8 y2, Value.bool s2] 66 (0, 0))).heap[W.heap.size + 1]? = some (.cells #[Value.int IntKind.i8 x2, Value.int IntKind.i8 y2, Value.bool s2] 66 (0, 0)) := al_2 _ _ _
  have e3 : BelowD W.heap.size W ((W.alloc (Obj.cells #[Value.int IntKind.i8 x1, Value.int IntKind.i8 y1, Value.bool s1] 66 (0, 0))).alloc (Obj.cells #[Value.int IntKind.i8 x2, Value.int IntKind.i8 y2, Value.bool s2] 66 (0, 0))) := al_3 _ _ _
  generalize hW2 : ((W.alloc (Obj.cells #[Value.int IntKind.i8 x1, Value.int IntKind.i8 y1, Value.bool s1] 66 (0, 0))).alloc (Obj.cells #[Value.int IntKind.i8 x2, Value.int IntKind.i8 y2, Value.bool s2] 66 (0, 0))) = W2 at *
  generalize hg2 : W.heap.size = g2 at *
  have e3d : g2 ≤ W2.heap.size := by have := e3.size; omega
  generalize hg3 : g2 + 1 = g3 at *
  refine' CalmBD.wp_region_calm [(Sum.inl _ : CalmBD.Plan), (Sum.inl _ : CalmBD.Plan), (Sum.inl _ : CalmBD.Plan), (Sum.inl _ : CalmBD.Plan), (Sum.inl _ : CalmBD.Plan), (Sum.inl _ : CalmBD.Plan), (Sum.inl _ : CalmBD.Plan), (Sum.inl _ : CalmBD.Plan), (Sum.inl _ : CalmBD.Plan), (Sum.inl _ : CalmBD.Plan), (Sum.inl _ : CalmBD.Plan), (Sum.inl _ : CalmBD.Plan), (Sum.inr _ : CalmBD.Plan), (Sum.inl _ : CalmBD.Plan), (Sum.inl _ : CalmBD.Plan)] (by kernel_rfl) (by kernel_rfl) ?_
  rotate_left 15
  refine (?_ : Yd Try.prog _ K 19 W2 _ _ 0 [(2, .pointer (some ⟨g2, 0, none⟩)), (3, .pointer (some ⟨g3, 0, none⟩))] []) _ _ ⟨rfl, rfl, ?_⟩ ⟨by simp, fun b hb => by cases hb⟩
  · refine yd_val (r_field tb rfl rfl rfl) rfl rfl rfl ?hp ?_; (case hp => exact rfl)
    refine yd_val (r_ldo rfl rfl e1 (by simp) (ldvN tb rfl ext2_0 rfl)) rfl rfl rfl ?hp ?_; (case hp => exact rfl)
    refine yd_val (r_field tb rfl rfl rfl) rfl rfl rfl ?hp ?_; (case hp => exact rfl)
    refine yd_val (r_ldo rfl rfl e2 (by simp) (ldvN tb rfl ext2_0 rfl)) rfl rfl rfl ?hp ?_; (case hp => exact rfl)
    refine yd_call rfl rfl hsp Try.func54 (by kernel_rfl) rfl rfl rfl rfl ?hp ?_; (case hp => exact rfl)
    refine yd_val (r_field tb rfl rfl rfl) rfl rfl rfl ?hp ?_; (case hp => exact rfl)
    refine yd_val (r_ldo rfl rfl e1 (by simp) (ldv1 tb rfl rfl)) rfl rfl rfl ?hp ?_; (case hp => exact rfl)
    refine yd_call rfl rfl (hb _) Try.func94 (by kernel_rfl) rfl rfl rfl rfl ?hp ?_; (case hp => exact rfl)
    refine yd_val (r_field tb rfl rfl rfl) rfl rfl rfl ?hp ?_; (case hp => exact rfl)
    refine yd_val (r_ldo rfl rfl e2 (by simp) (ldv1 tb rfl rfl)) rfl rfl rfl ?hp ?_; (case hp => exact rfl)
    refine yd_call rfl rfl (hb _) Try.func94 (by kernel_rfl) rfl rfl rfl rfl ?hp ?_; (case hp => exact rfl)
    refine yd_call rfl rfl (hc _ _) Try.func101 (by kernel_rfl) rfl rfl rfl rfl ?hp ?_; (case hp => exact rfl)
    refine yd_bsl rfl rfl (fun w => slInts2 _ _ w) rfl rfl rfl ?hp fun g => ?_; (case hp => exact rfl)
    refine yd_rd rfl rfl (List.mem_cons_self) (List.mem_cons_self) rfl (fun w hg => ho _ _ g w hg) Try.func100 (by kernel_rfl) rfl rfl rfl rfl ?hp ?_; (case hp => exact rfl)
    refine yd_val (r_assign rfl rfl) rfl rfl rfl ?hp ?_; (case hp => exact rfl)
    refine yd_nil fun a' w' hF hB => hK a' w' ?_
    have hB2 : BelowD g2 W w' := e3.trans (hB.mono e3d)
    subst hg2
    refine wp_ret ?_
    refine post_nr (fn := Try.f68) .ret (.inr rfl) (post1 rfl (re_tmp (P := Try.prog) (O := []) (w0 := w') (L := []) (t := 4) rfl a' w' hF (Own.start w')) hF.defers ?_)
    exact ⟨rfl, hB2.grow⟩
  · intro i v h
    simp only [lk] at h
    split at h
    · rename_i e; injection h with h; subst h; have := Nat.eq_of_beq_eq_true e; subst this; rfl
    · split at h
      · rename_i e; injection h with h; subst h; have := Nat.eq_of_beq_eq_true e; subst this; rfl
      · cases h
end Go.Proofs.Ytnafnhpajkhgkaa
/- The library's sort lies in this program. No condition. -/
namespace Go.Proofs.Ytnafnhpajkhgkaa
open Go.Shelf
def sortSp_ren : Go.Shelf.Ren := ⟨fun | 6 => 81 | 15 => 99 | 14 => 104 | 28 => 117 | 29 => 118 | 20 => 120 | 21 => 121 | 22 => 122 | 23 => 123 | 24 => 124 | 25 => 125 | 26 => 126 | 27 => 127 | 46 => 133 | 47 => 129 | 48 => 130 | 49 => 134 | 50 => 135 | 57 => 137 | n => n, fun | 22 => 36 | 24 => 52 | 25 => 96 | 3 => 3 | 39 => 115 | 0 => 0 | 53 => 157 | 55 => 159 | 4 => 4 | 46 => 150 | 45 => 149 | 50 => 154 | 5 => 5 | 9 => 9 | 66 => 166 | 70 => 170 | 76 => 174 | 77 => 175 | n => n, fun | n => n⟩
theorem sortSp : SlLaysF0.n6 Try.prog sortSp_ren := {
  mixed := by kernel_rfl
  f6 := ⟨Try.f81.name, by decide, Try.func81.trans (congrArg some (by kernel_rfl))⟩
  f14 := ⟨Try.f104.name, by decide, Try.func104.trans (congrArg some (by kernel_rfl))⟩
  f15 := Try.func99.trans (congrArg some (by kernel_rfl))
  f20 := ⟨Try.f120.name, by decide, Try.func120.trans (congrArg some (by kernel_rfl))⟩
  f21 := ⟨Try.f121.name, by decide, Try.func121.trans (congrArg some (by kernel_rfl))⟩
  f22 := ⟨Try.f122.name, by decide, Try.func122.trans (congrArg some (by kernel_rfl))⟩
  f23 := ⟨Try.f123.name, by decide, Try.func123.trans (congrArg some (by kernel_rfl))⟩
  f24 := ⟨Try.f124.name, by decide, Try.func124.trans (congrArg some (by kernel_rfl))⟩
  f25 := ⟨Try.f125.name, by decide, Try.func125.trans (congrArg some (by kernel_rfl))⟩
  f26 := ⟨Try.f126.name, by decide, Try.func126.trans (congrArg some (by kernel_rfl))⟩
  f27 := ⟨Try.f127.name, by decide, Try.func127.trans (congrArg some (by kernel_rfl))⟩
  f28 := Try.func117.trans (congrArg some (by kernel_rfl))
  f29 := Try.func118.trans (congrArg some (by kernel_rfl))
  f46 := ⟨Try.f133.name, by decide, Try.func133.trans (congrArg some (by kernel_rfl))⟩
  f47 := Try.func129.trans (congrArg some (by kernel_rfl))
  f48 := Try.func130.trans (congrArg some (by kernel_rfl))
  f49 := ⟨Try.f134.name, by decide, Try.func134.trans (congrArg some (by kernel_rfl))⟩
  f50 := ⟨Try.f135.name, by decide, Try.func135.trans (congrArg some (by kernel_rfl))⟩
  f57 := ⟨Try.f137.name, by decide, Try.func137.trans (congrArg some (by kernel_rfl))⟩
  t0 := Try.underlying0
  a0 := Try.isAgg0
  z0 := Try.sizeOf0
  v0 := Try.zeroValue0
  t3 := Try.underlying3
  a3 := Try.isAgg3
  z3 := Try.sizeOf3
  v3 := Try.zeroValue3
  t4 := Try.underlying4
  a4 := Try.isAgg4
  z4 := Try.sizeOf4
  v4 := Try.zeroValue4
  t5 := Try.underlying5
  a5 := Try.isAgg5
  z5 := Try.sizeOf5
  v5 := Try.zeroValue5
  t9 := Try.underlying9
  a9 := Try.isAgg9
  z9 := Try.sizeOf9
  v9 := Try.zeroValue9
  t22 := Try.underlying36
  a22 := Try.isAgg36
  z22 := Try.sizeOf36
  v22 := Try.zeroValue36
  t25 := Try.underlying96
  a25 := Try.isAgg96
  z25 := Try.sizeOf96
  v25 := Try.zeroValue96
  t39 := Try.underlying115
  a39 := Try.isAgg115
  z39 := Try.sizeOf115
  v39 := Try.zeroValue115
  t45 := Try.underlying149
  a45 := Try.isAgg149
  z45 := Try.sizeOf149
  v45 := Try.zeroValue149
  t46 := Try.underlying150
  a46 := Try.isAgg150
  z46 := Try.sizeOf150
  v46 := Try.zeroValue150
  t50 := Try.underlying154
  a50 := Try.isAgg154
  z50 := Try.sizeOf154
  v50 := Try.zeroValue154
  t53 := Try.underlying157
  a53 := Try.isAgg157
  z53 := Try.sizeOf157
  v53 := Try.zeroValue157
  t55 := Try.underlying159
  a55 := Try.isAgg159
  z55 := Try.sizeOf159
  v55 := Try.zeroValue159
  t66 := Try.underlying166
  a66 := Try.isAgg166
  z66 := Try.sizeOf166
  v66 := Try.zeroValue166
  t70 := Try.underlying170
  a70 := Try.isAgg170
  z70 := Try.sizeOf170
  v70 := Try.zeroValue170
  t76 := Try.underlying174
  a76 := Try.isAgg174
  z76 := Try.sizeOf174
  v76 := Try.zeroValue174
  t77 := Try.underlying175
  a77 := Try.isAgg175
  z77 := Try.sizeOf175
  v77 := Try.zeroValue175 }
def sortHd_ren : Go.Shelf.Ren := ⟨fun | 6 => 67 | 15 => 99 | 14 => 98 | 28 => 117 | 29 => 118 | 20 => 109 | 21 => 110 | 22 => 111 | 23 => 112 | 24 => 113 | 25 => 114 | 26 => 115 | 27 => 116 | 46 => 128 | 47 => 129 | 48 => 130 | 49 => 131 | 50 => 132 | 57 => 136 | n => n, fun | 22 => 55 | 24 => 66 | 25 => 109 | 3 => 3 | 39 => 115 | 0 => 0 | 53 => 157 | 55 => 159 | 4 => 4 | 46 => 150 | 45 => 149 | 50 => 154 | 5 => 5 | 9 => 9 | 66 => 166 | 70 => 170 | 76 => 174 | 77 => 175 | n => n, fun | n => n⟩
theorem sortHd : SlLaysF0.n6 Try.prog sortHd_ren := {
  mixed := by kernel_rfl
  f6 := ⟨Try.f67.name, by decide, Try.func67.trans (congrArg some (by kernel_rfl))⟩
  f14 := ⟨Try.f98.name, by decide, Try.func98.trans (congrArg some (by kernel_rfl))⟩
  f15 := Try.func99.trans (congrArg some (by kernel_rfl))
  f20 := ⟨Try.f109.name, by decide, Try.func109.trans (congrArg some (by kernel_rfl))⟩
  f21 := ⟨Try.f110.name, by decide, Try.func110.trans (congrArg some (by kernel_rfl))⟩
  f22 := ⟨Try.f111.name, by decide, Try.func111.trans (congrArg some (by kernel_rfl))⟩
  f23 := ⟨Try.f112.name, by decide, Try.func112.trans (congrArg some (by kernel_rfl))⟩
  f24 := ⟨Try.f113.name, by decide, Try.func113.trans (congrArg some (by kernel_rfl))⟩
  f25 := ⟨Try.f114.name, by decide, Try.func114.trans (congrArg some (by kernel_rfl))⟩
  f26 := ⟨Try.f115.name, by decide, Try.func115.trans (congrArg some (by kernel_rfl))⟩
  f27 := ⟨Try.f116.name, by decide, Try.func116.trans (congrArg some (by kernel_rfl))⟩
  f28 := Try.func117.trans (congrArg some (by kernel_rfl))
  f29 := Try.func118.trans (congrArg some (by kernel_rfl))
  f46 := ⟨Try.f128.name, by decide, Try.func128.trans (congrArg some (by kernel_rfl))⟩
  f47 := Try.func129.trans (congrArg some (by kernel_rfl))
  f48 := Try.func130.trans (congrArg some (by kernel_rfl))
  f49 := ⟨Try.f131.name, by decide, Try.func131.trans (congrArg some (by kernel_rfl))⟩
  f50 := ⟨Try.f132.name, by decide, Try.func132.trans (congrArg some (by kernel_rfl))⟩
  f57 := ⟨Try.f136.name, by decide, Try.func136.trans (congrArg some (by kernel_rfl))⟩
  t0 := Try.underlying0
  a0 := Try.isAgg0
  z0 := Try.sizeOf0
  v0 := Try.zeroValue0
  t3 := Try.underlying3
  a3 := Try.isAgg3
  z3 := Try.sizeOf3
  v3 := Try.zeroValue3
  t4 := Try.underlying4
  a4 := Try.isAgg4
  z4 := Try.sizeOf4
  v4 := Try.zeroValue4
  t5 := Try.underlying5
  a5 := Try.isAgg5
  z5 := Try.sizeOf5
  v5 := Try.zeroValue5
  t9 := Try.underlying9
  a9 := Try.isAgg9
  z9 := Try.sizeOf9
  v9 := Try.zeroValue9
  t22 := Try.underlying55
  a22 := Try.isAgg55
  z22 := Try.sizeOf55
  v22 := Try.zeroValue55
  t25 := Try.underlying109
  a25 := Try.isAgg109
  z25 := Try.sizeOf109
  v25 := Try.zeroValue109
  t39 := Try.underlying115
  a39 := Try.isAgg115
  z39 := Try.sizeOf115
  v39 := Try.zeroValue115
  t45 := Try.underlying149
  a45 := Try.isAgg149
  z45 := Try.sizeOf149
  v45 := Try.zeroValue149
  t46 := Try.underlying150
  a46 := Try.isAgg150
  z46 := Try.sizeOf150
  v46 := Try.zeroValue150
  t50 := Try.underlying154
  a50 := Try.isAgg154
  z50 := Try.sizeOf154
  v50 := Try.zeroValue154
  t53 := Try.underlying157
  a53 := Try.isAgg157
  z53 := Try.sizeOf157
  v53 := Try.zeroValue157
  t55 := Try.underlying159
  a55 := Try.isAgg159
  z55 := Try.sizeOf159
  v55 := Try.zeroValue159
  t66 := Try.underlying166
  a66 := Try.isAgg166
  z66 := Try.sizeOf166
  v66 := Try.zeroValue166
  t70 := Try.underlying170
  a70 := Try.isAgg170
  z70 := Try.sizeOf170
  v70 := Try.zeroValue170
  t76 := Try.underlying174
  a76 := Try.isAgg174
  z76 := Try.sizeOf174
  v76 := Try.zeroValue174
  t77 := Try.underlying175
  a77 := Try.isAgg175
  z77 := Try.sizeOf175
  v77 := Try.zeroValue175 }
end Go.Proofs.Ytnafnhpajkhgkaa
/- slices.SortFunc of cells and of hurdles: the same elements, in order. No condition but a length of at most 2^20. -/
namespace Go.Proofs.Ytnafnhpajkhgkaa
set_option linter.unusedVariables false
set_option linter.unusedSimpArgs false
open Go.RowKit Mem Wk Go.Sort Go.Shelf

theorem encS_len (x : SpR) : (encS x).length = 2 := rfl
theorem encH_len (x : HdR) : (encH x).length = 3 := rfl
theorem encS_one (x : SpR) : ∀ v ∈ encS x, v.oneCell' = true := fun v hv => by
  have hv' : v ∈ [Value.int .i8 x.val.x, Value.int .i8 x.val.y] := hv
  simp only [List.mem_cons, List.mem_nil_iff, or_false] at hv'
  rcases hv' with rfl | rfl <;> rfl
theorem encH_one (x : HdR) : ∀ v ∈ encH x, v.oneCell' = true := fun v hv => by
  have hv' : v ∈ [Value.int .i8 x.val.x, Value.int .i8 x.val.y, Value.bool x.val.s] := hv
  simp only [List.mem_cons, List.mem_nil_iff, or_false] at hv'
  rcases hv' with rfl | rfl | rfl <;> rfl
theorem sortS_any (L : List Sp) (g n cap : Nat) (cur : Array Value) (w : World) (hA : Ap 2 n cap cur (flS L)) (hg : w.heap[g]? = some (.cells cur 52 (0, 0))) (hn : L.length ≤ 1048576) (hin : ∀ s ∈ L, inR s) :
    Calls Try.prog 81 #[.slice (some ⟨g, 0, none⟩) n cap, .func (.func 54) #[] #[]] w (SortP 52 Sp.cells (ltOf cmS) 2 n cap g L w) := by
  have hc := hA.cnt
  subst hc
  have hlt : g < w.heap.size := (Array.getElem?_eq_some_iff.1 hg).1
  have hLs : (L.attachWith inR hin).map (·.val) = L := attach_val L hin
  generalize L.attachWith inR hin = Ls at hLs
  have hsz : Ls.toArray.size = L.length := by rw [← hLs]; simp
  have hA' : Ap 2 L.length cap cur (Ls.map encS).flatten := by
    have : (Ls.map encS).flatten = flS L := by rw [← hLs]; unfold flS; rw [List.map_map]; rfl
    rw [this]; exact hA
  have h := AnyQ.slices_SortFunc sortSp 2 Try.isAgg52 Try.sizeOf52 encS encS_len encS_one cfS swoSR 54 #[] g 0 cap Ls.toArray w (enters_of Try.func54 (by kernel_rfl) rfl) (fun _ _ _ _ x y => cmpS_grow x y _) (holdsK_ap encS_len hA' hg) hlt (by rw [hsz]; omega)
  rw [hsz] at h
  refine Calls.mono h ?_
  intro e w' he
  exact sort_post (p := inR) (k := 2) (fun x => rfl) (by omega) (fun a b => rfl) hLs (by exact hA) hg (by rw [hsz]; exact he)
theorem sortH_any (L : List Hd) (g n cap : Nat) (cur : Array Value) (w : World) (hA : Ap 3 n cap cur (flH L)) (hg : w.heap[g]? = some (.cells cur 66 (0, 0))) (hn : L.length ≤ 1048576) (hin : ∀ s ∈ L, hdI s) :
    Calls Try.prog 67 #[.slice (some ⟨g, 0, none⟩) n cap, .func (.func 68) #[] #[]] w (SortP 66 Hd.cells (ltOf cmH) 3 n cap g L w) := by
  have hc : n = L.length := by have h1 := hA.count (sz := 3) (fun c hc => by obtain ⟨s, _, rfl⟩ := List.mem_map.1 hc; rfl) (by omega); rw [List.length_map] at h1; exact h1
  subst hc
  have hlt : g < w.heap.size := (Array.getElem?_eq_some_iff.1 hg).1
  have hLs : (L.attachWith hdI hin).map (·.val) = L := attach_val L hin
  generalize L.attachWith hdI hin = Ls at hLs
  have hsz : Ls.toArray.size = L.length := by rw [← hLs]; simp
  have hA' : Ap 3 L.length cap cur (Ls.map encH).flatten := by
    have : (Ls.map encH).flatten = flH L := by rw [← hLs]; unfold flH; rw [List.map_map]; rfl
    rw [this]; exact hA
  have h := AnyQ.slices_SortFunc sortHd 3 Try.isAgg66 Try.sizeOf66 encH encH_len encH_one cfH swoHR 68 #[] g 0 cap Ls.toArray w (enters_of Try.func68 (by kernel_rfl) rfl) (fun _ _ _ _ x y => cmpH_grow x y _) (holdsK_ap encH_len hA' hg) hlt (by rw [hsz]; omega)
  rw [hsz] at h
  refine Calls.mono h ?_
  intro e w' he
  exact sort_post (p := hdI) (k := 3) (fun x => rfl) (by omega) (fun a b => rfl) hLs (by exact hA) hg (by rw [hsz]; exact he)
end Go.Proofs.Ytnafnhpajkhgkaa
