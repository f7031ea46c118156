import Derived.Test.YtnafnhpajkhgkaaQY03
import Derived.Test.YtnafnhpajkhgkaaQY09
import Derived.Test.YtnafnhpajkhgkaaQY11
/- Cells beside a cell; slices that a callee has made. No condition. -/
namespace Go.Proofs.Ytnafnhpajkhgkaa
set_option linter.unusedVariables false
set_option linter.unusedSimpArgs false
open Go.RowKit Mem Wk
attribute [local irreducible] Calls Wk.S Wk.C Wk.E Wk.X Wk.T Wk.andV Wk.shrV Calm.wpLex
theorem iSpot : (Try.prog.info? 52).map (fun i => (i.zero, i.size, i.bytes)) = some (some (.agg #[.int .i8 0, .int .i8 0]), 2, 2) := by kernel_rfl
theorem uSpotS : Try.prog.underlying 36 = some (.slice 52) := by kernel_rfl
theorem slSpot0 (w : World) : (Instr.buildSlice 36 0 #[]).run Try.prog w = .ok (.slice (some ⟨w.heap.size, 0, none⟩) 0 0) (w.alloc (.cells #[] 52 (0, 0))) := by kernel_rfl
/-- the cells of spots, one after another -/
def flS (l : List Sp) : List Value := (l.map Sp.cells).flatten
theorem flS_len (l : List Sp) : (flS l).length = l.length * 2 := by
  induction l with
  | nil => rfl
  | cons a l ih => simp only [flS, List.map_cons, List.flatten_cons, List.length_append] at ih ⊢; rw [ih]; simp [Sp.cells]; omega
theorem flS_snoc (l : List Sp) (a : Sp) : flS (l ++ [a]) = flS l ++ a.cells := by simp [flS]
theorem flS_get : ∀ (l : List Sp) (i : Nat) (s : Sp), l[i]? = some s → ((flS l).drop (i * 2)).take 2 = s.cells
  | [], i, s, h => by simp at h
  | a :: l, 0, s, h => by simp at h; subst h; simp [flS, Sp.cells]
  | a :: l, i + 1, s, h => by
    have := flS_get l i s (by simpa using h)
    have e : flS (a :: l) = a.cells ++ flS l := by simp [flS]
    rw [e, show (i + 1) * 2 = a.cells.length + i * 2 by simp [Sp.cells]; omega, List.drop_length_add_append]
    exact this
/-- an element of a slice of the walk's own -/
theorem Wk.Ap.spot {n cap : Nat} {cur : Array Value} {l : List Sp} (h : Ap 2 n cap cur (flS l)) {i : Nat} {s : Sp} (hi : l[i]? = some s) : 0 + i * 2 + 2 ≤ cur.size ∧ cur.extract (0 + i * 2) (0 + i * 2 + 2) = #[.int .i8 s.x, .int .i8 s.y] := by
  have hlt : i < l.length := (List.getElem?_eq_some_iff.1 hi).1
  have hl := flS_len l
  have h1 := h.len
  have hn : l.length = n := by omega
  have hle := h.le
  have hs := h.size
  refine ⟨by omega, ?_⟩
  apply Array.ext'
  have hg := flS_get l i s hi
  rw [← h.take] at hg
  rw [List.drop_take, List.take_take] at hg
  simp only [Array.toList_extract, Nat.zero_add, List.extract_eq_take_drop]
  rw [show i * 2 + 2 - i * 2 = 2 by omega]
  rw [show min 2 (n * 2 - i * 2) = 2 by omega] at hg
  exact hg
theorem Wk.Ap.sl {n cap : Nat} {cur : Array Value} {l : List Sp} (h : Ap 2 n cap cur (flS l)) {w : World} {g : Nat} {T : TypeId} (hg : w.heap[g]? = some (.cells cur T (0, 0))) : n = l.length ∧ SlA [] w 2 (some ⟨g, 0, none⟩) (l.map Sp.cells) := by
  have hl := flS_len l
  have h1 := h.len
  refine ⟨by omega, fun i c hc => ?_⟩
  rw [List.getElem?_map] at hc
  obtain ⟨s, hs, rfl⟩ := Option.map_eq_some_iff.1 hc
  obtain ⟨_, he⟩ := h.spot hs
  refine ⟨rfl, g, 0, rfl, by simp, fun j u hu => ?_⟩
  rw [cell_of_row w g _ cur T (0, 0) hg]
  have hj : j < 2 := (List.getElem?_eq_some_iff.1 hu).1
  have e2 : (cur.extract (0 + i * 2) (0 + i * 2 + 2))[j]? = some u := by rw [he]; simpa [Sp.cells] using hu
  rw [Array.getElem?_extract] at e2
  split at e2
  · exact e2
  · cases e2
/-- What a callee answers that has made a slice. -/
def NewS (T : TypeId) (sz : Nat) (xs : List Value) (w : World) (e : Ending) (w' : World) : Prop := ∃ g k cap cur, e = .returned (.slice (some ⟨g, 0, none⟩) k cap) ∧ Ap sz k cap cur xs ∧ w.heap.size ≤ g ∧ w'.heap[g]? = some (.cells cur T (0, 0)) ∧ Below w.heap.size w w'
theorem NewS.of {T : TypeId} {sz k cap g : Nat} {xs : List Value} {cur : Array Value} {w0 w : World} {L : List (Nat × TypeId × Array Value)} (hA : Ap sz k cap cur xs) (hL : Kn [] w0 w L) (hm : (g, T, cur) ∈ L) : NewS T sz xs w0 (.returned (.slice (some ⟨g, 0, none⟩) k cap)) w :=
  ⟨g, k, cap, cur, rfl, hA, (hL.low _ hm).resolve_right (by simp), hL.has _ hm, hL.toBelow⟩
theorem s_callN {P : Program} {ops : Array Oper} {Q : Exit → Act → World → Prop} {n : Nat} {O : List Nat} {w0 : World} {o : Oper} {rest : List Oper} {l : List (Nat × Value)} {L : List (Nat × TypeId × Array Value)} {f : FuncId} {fn : Func} {xs : Array Operand} {ts : Array TypeId} {vs : List Value} {d : Nat} {T : TypeId} {sz : Nat} {cs : List Value} (hf : P.funcs[f]? = some fn) (hname : (fn.name == "runtime.NumGoroutine") = false) (hb : fn.body.isSome = true) (hg : o.guard = none) (hd : o.dst = some d) (hn : Nat.blt d n = true)
    (hop : o.op = .call { callee := .value (.func f), args := xs, argTypes := ts }) (hargs : evs l xs.toList = some vs) (hc : ∀ w, Kn O w0 w L → Calls P f vs.toArray w (NewS T sz cs w)) (h : ∀ g k cap cur, Ap sz k cap cur cs → S P ops Q n O w0 rest ((d, .slice (some ⟨g, 0, none⟩) k cap) :: l) ((g, T, cur) :: L)) : S P ops Q n O w0 (o :: rest) l L :=
  s_callR (ι := Nat × Nat × Nat × Array Value) (fun i => Ap sz i.2.1 i.2.2.1 i.2.2.2 cs) (fun i => .slice (some ⟨i.1, 0, none⟩) i.2.1 i.2.2.1) (fun i => (i.1, T, i.2.2.2) :: L) hf hname hb hg hd hn hop hargs
    (fun w hL => (hc w hL).mono fun e w' ⟨g, k, cap, cur, he, hA, hge, hat, hb⟩ => ⟨(g, k, cap, cur), hA, he, Own.add hL hb hge hat⟩) (fun ⟨g, k, cap, cur⟩ hA => h g k cap cur hA)
/-- the first k sides over which one can go -/
def besL (p : Nat → Int) (x y : Int) (k : Nat) : List Sp := ((List.range k).filter fun s : Nat => canB p x y (s : Int)).map fun s : Nat => ⟨nextX x (s : Int), nextY y (s : Int)⟩
theorem besL_yes {p : Nat → Int} {x y : Int} {k : Nat} (h : canB p x y (k : Int) = true) : besL p x y (k + 1) = besL p x y k ++ [⟨nextX x k, nextY y k⟩] := by
  unfold besL; rw [List.range_succ, List.filter_append]; simp [h]
theorem besL_no {p : Nat → Int} {x y : Int} {k : Nat} (h : canB p x y (k : Int) = false) : besL p x y (k + 1) = besL p x y k := by
  unfold besL; rw [List.range_succ, List.filter_append]; simp [h]
theorem besL_len (p : Nat → Int) (x y : Int) (k : Nat) : (besL p x y k).length ≤ k := by
  unfold besL; rw [List.length_map]; exact Nat.le_trans (List.length_filter_le _ _) (by simp)
set_option maxRecDepth 100000 in
set_option maxHeartbeats 400000 in
theorem beside_any (p : Nat → Int) (cs : Array Value) (x y : Int) (w : World) (hp : Pv p cs) (hx : 0 ≤ x ∧ x < 10) (hy : 0 ≤ y ∧ y < 10) :
    Calls Try.prog 50 #[.agg cs, .agg #[.int .i8 x, .int .i8 y]] w (NewS 52 2 (flS (besL p x y 4)) w) := by
  have hsz := hp.size
  refine enter2 Try.func50 rfl rfl rfl (Own.start w) ?_
  repeat' (first
    | (refine s_g ?_; first
      | (refine s_k 0 rfl ?_; refine s_val rfl rfl rfl (r_move rfl rfl) ?_)
      | (refine s_k 8 rfl ?_; first | (refine' s_val rfl rfl rfl (r_ldv rfl rfl ?qm ?qv) ?_; (case qm => (exact zMm)); (case qv => (exact zLe))) | (refine' s_val rfl rfl rfl (r_ldo rfl rfl ?qw (by simp) ?qv) ?_; (case qw => assumption); (case qv => (exact zLe))))
      | (refine s_k 1 rfl ?_; refine s_val rfl rfl rfl (r_assign rfl rfl) ?_)
      | (refine s_k 13 rfl ?_; first | refine s_val rfl rfl rfl (r_lss rfl rfl rfl) ?_ | refine s_val rfl rfl rfl (r_add rfl rfl rfl (wrap_in (by simp only [lo, hi]; omega))) ?_)
      | (refine s_k 4 rfl ?_; first | refine s_boxA rfl rfl rfl rfl rfl fun blk => ?_ | refine s_box1 rfl rfl rfl rfl rfl rfl fun blk => ?_)
      | (refine s_k 6 rfl ?_; refine s_bsl rfl rfl (fun w => slSpot0 w) rfl rfl rfl fun blk => ?_)
      | refine s_nil ?_)
    | (refine c_g ?_; first | refine c_seq ?_ | refine c_region ?_ | (refine c_gc ?_; first | refine c_cond1 rfl zTr ?_ | refine c_cond0 rfl zTr ?_ | refine z_condd1 rfl ?_ | refine z_condd0 rfl ?_ | refine z_conddn1 rfl ?_ | refine z_conddn0 rfl ?_ | refine c_condd rfl (fun hc => ?_) (fun hc => ?_) | refine c_conddn rfl (fun hc => ?_) (fun hc => ?_) | refine c_condn rfl (fun hc => ?_) (fun hc => ?_) | refine c_cond rfl (fun hc => ?_) (fun hc => ?_)) | refine c_block ?_ | refine c_skip ?_ | refine c_exit ?_ | refine c_ret ?_)
    | (refine e_g ?_; first | refine e_then ?_ | refine e_blkn ?_ | refine e_thenx ?_ | refine e_thenr ?_ | refine e_blkr ?_ | refine e_blkx ?_ | refine e_blky rfl ?_))
  rename_i b2 b3
  refine c_loop (ι := Nat × Nat × Nat × Array Value) (fun i => 4 - i.1) (fun i => i.1 ≤ 4 ∧ Ap 2 (besL p x y i.1).length i.2.2.1 i.2.2.2 (flS (besL p x y i.1))) (fun i => [(8, .int .i64 (i.1 : Int)), (5, .slice (some ⟨i.2.1, 0, none⟩) (besL p x y i.1).length i.2.2.1), (2, .pointer (some ⟨b2, 0, none⟩)), (3, .pointer (some ⟨b3, 0, none⟩))]) (fun i => [(i.2.1, 52, i.2.2.2), (b3, 52, #[.int .i8 x, .int .i8 y]), (b2, 32, cs)]) (0, blk, 0, #[]) ⟨by simp, Ap.nil 2⟩ ?hs rfl ?_
  case hs => exact sub_cons rfl (sub_cons rfl (sub_cons rfl (sub_cons rfl sub_nil)))
  rintro ⟨k, g, cap, cur⟩ ⟨hk, hA⟩
  simp only at hk hA ⊢
  have hbl := besL_len p x y k
  by_cases hlt : k < 4
  · cases hcan : canB p x y (k : Int)
    case' true => have hb1 := besL_yes hcan
    case' false => have hb1 := besL_no hcan
    all_goals
      repeat' (first
        | (refine s_g ?_; first
      | (refine s_k 0 rfl ?_; refine s_val rfl rfl rfl (r_move rfl rfl) ?_)
      | (refine s_k 8 rfl ?_; first | (refine' s_val rfl rfl rfl (r_ldv rfl rfl ?qm ?qv) ?_; (case qm => (exact zMm)); (case qv => (exact zLe))) | (refine' s_val rfl rfl rfl (r_ldo rfl rfl ?qw (by simp) ?qv) ?_; (case qw => assumption); (case qv => (exact zLe))))
      | (refine s_k 1 rfl ?_; refine s_val rfl rfl rfl (r_assign rfl rfl) ?_)
      | (refine s_k 13 rfl ?_; first | refine s_val rfl rfl rfl (r_lss rfl rfl rfl) ?_ | refine s_val rfl rfl rfl (r_add rfl rfl rfl (wrap_in (by simp only [lo, hi]; omega))) ?_)
      | (refine s_k 35 rfl ?_; first | (refine s_call Try.func80 (by kernel_rfl) rfl rfl rfl rfl rfl rfl (fun w hL => canGo_any p cs _ _ _ _ hp hx hy) ?_) | (refine s_call Try.func79 (by kernel_rfl) rfl rfl rfl rfl rfl rfl (fun w hL => ahead_any _ _ _ _ (by omega) (by omega)) ?_))
      | (refine s_k 4 rfl ?_; first | refine s_boxA rfl rfl rfl rfl rfl fun blk => ?_ | refine s_box1 rfl rfl rfl rfl rfl rfl fun blk => ?_)
      | (refine s_k 36 rfl ?_; refine s_app0 hA rfl rfl rfl uSpotS iSpot rfl (by omega) (by simp) (by simp) rfl (by simp [Value.oneCell']) (by unfold maxLen; omega) (by omega) rfl rfl rfl fun g cap cur hA => ?_)
      | (refine s_k 6 rfl ?_; refine s_bsl rfl rfl (fun w => slSpot1 _ _ w) rfl rfl rfl fun blk => ?_)
      | refine s_nil ?_)
        | (refine c_g ?_; first | refine c_seq ?_ | refine c_region ?_ | (refine c_gc ?_; first | refine c_cond1 rfl zTr ?_ | refine c_cond0 rfl zTr ?_ | refine z_condd1 rfl ?_ | refine z_condd0 rfl ?_ | refine z_conddn1 rfl ?_ | refine z_conddn0 rfl ?_ | refine c_condd rfl (fun hc => ?_) (fun hc => ?_) | refine c_conddn rfl (fun hc => ?_) (fun hc => ?_) | refine c_condn rfl (fun hc => ?_) (fun hc => ?_) | refine c_cond rfl (fun hc => ?_) (fun hc => ?_)) | refine c_block ?_ | refine c_skip ?_ | refine c_exit ?_ | refine c_ret ?_)
        | (refine e_g ?_; first | refine e_then ?_ | refine e_blkn ?_ | refine e_thenx ?_ | refine e_thenr ?_ | refine e_blkr ?_ | refine e_blkx ?_ | refine e_blky rfl ?_)
        | refine e_round (k + 1, g, cap, cur) (by simp; omega) ⟨by simp; omega, ?_⟩ ?hs rfl)
      all_goals first
        | (case hs => rw [hb1]; exact sub_cons' rfl (by simp) (sub_cons' rfl (by simp) (sub_cons rfl (sub_cons rfl sub_nil))))
        | (rw [hb1]; first | exact hA | (rw [flS_snoc]; simpa [Sp.cells] using hA))
  · have hk4 : k = 4 := by omega
    subst hk4
    repeat' (first
      | (refine s_g ?_; first
      | (refine s_k 0 rfl ?_; refine s_val rfl rfl rfl (r_move rfl rfl) ?_)
      | (refine s_k 8 rfl ?_; first | (refine' s_val rfl rfl rfl (r_ldv rfl rfl ?qm ?qv) ?_; (case qm => (exact zMm)); (case qv => (exact zLe))) | (refine' s_val rfl rfl rfl (r_ldo rfl rfl ?qw (by simp) ?qv) ?_; (case qw => assumption); (case qv => (exact zLe))))
      | (refine s_k 1 rfl ?_; refine s_val rfl rfl rfl (r_assign rfl rfl) ?_)
      | (refine s_k 13 rfl ?_; first | refine s_val rfl rfl rfl (r_lss rfl rfl rfl) ?_ | refine s_val rfl rfl rfl (r_add rfl rfl rfl (wrap_in (by simp only [lo, hi]; omega))) ?_)
      | (refine s_k 4 rfl ?_; first | refine s_boxA rfl rfl rfl rfl rfl fun blk => ?_ | refine s_box1 rfl rfl rfl rfl rfl rfl fun blk => ?_)
      | refine s_nil ?_)
      | (refine c_g ?_; first | refine c_seq ?_ | refine c_region ?_ | (refine c_gc ?_; first | refine c_cond1 rfl zTr ?_ | refine c_cond0 rfl zTr ?_ | refine z_condd1 rfl ?_ | refine z_condd0 rfl ?_ | refine z_conddn1 rfl ?_ | refine z_conddn0 rfl ?_ | refine c_condd rfl (fun hc => ?_) (fun hc => ?_) | refine c_conddn rfl (fun hc => ?_) (fun hc => ?_) | refine c_condn rfl (fun hc => ?_) (fun hc => ?_) | refine c_cond rfl (fun hc => ?_) (fun hc => ?_)) | refine c_block ?_ | refine c_skip ?_ | refine c_exit ?_ | refine c_ret ?_)
      | (refine e_g ?_; first | refine e_then ?_ | refine e_blkn ?_ | refine e_thenx ?_ | refine e_thenr ?_ | refine e_blkr ?_ | refine e_blkx ?_ | refine e_blky rfl ?_)
      | (refine e_ret1 (by simp) rfl (re_tmp rfl) fun w hL => NewS.of hA hL m0))
end Go.Proofs.Ytnafnhpajkhgkaa
/- IndexFunc and ContainsFunc over structs, for any closure that only looks. No condition. -/
namespace Go.Proofs.Ytnafnhpajkhgkaa
set_option linter.unusedVariables false
set_option linter.unusedSimpArgs false
open Go.RowKit Mem Wk
attribute [local irreducible] Calls Wk.S Wk.C Wk.E Wk.X Wk.T Calm.wpLex
theorem Sl.open {w : World} {sz : Nat} {v : Value} {xs : List (List Value)} (h : Sl w sz v xs) : ∃ A cap, v = .slice A xs.length cap ∧ xs.length ≤ cap ∧ cap ≤ maxLen ∧ SlA [] w sz A xs := by
  obtain ⟨A, cap, hv, h1, h2, h3⟩ := h
  refine ⟨A, cap, hv, h1, h2, fun i c hc => ?_⟩
  obtain ⟨hl, b, off, hA, hcell⟩ := h3 i c hc
  exact ⟨hl, b, off, hA, by simp, hcell⟩
/-- where the first is; -1 -/
def ixF {α : Type} (f : α → Bool) : List α → Int
  | [] => -1
  | a :: l => if f a then 0 else (if ixF f l < 0 then -1 else ixF f l + 1)
theorem ixF_none {α : Type} {f : α → Bool} : ∀ {l : List α}, (∀ a ∈ l, f a = false) → ixF f l = -1
  | [], _ => rfl
  | a :: l, h => by simp [ixF, h a (by simp), ixF_none (l := l) (fun b hb => h b (by simp [hb]))]
theorem ixF_some {α : Type} {f : α → Bool} : ∀ {l : List α} {k : Nat} {a : α}, l[k]? = some a → f a = true → (∀ j b, j < k → l[j]? = some b → f b = false) → ixF f l = k
  | [], k, a, h, _, _ => by simp at h
  | b :: l, 0, a, h, hf, _ => by simp at h; subst h; simp [ixF, hf]
  | b :: l, k + 1, a, h, hf, hb => by
    have h0 := hb 0 b (by omega) (by simp)
    have h1 := ixF_some (l := l) (k := k) (a := a) (by simpa using h) hf (fun j c hj hc => hb (j + 1) c (by omega) (by simpa using hc))
    simp [ixF, h0, h1]; omega
theorem ixF_any {α : Type} (f : α → Bool) : ∀ l : List α, decide (0 ≤ ixF f l) = l.any f
  | [] => rfl
  | a :: l => by
    have ih := ixF_any f l
    simp only [ixF, List.any_cons]
    by_cases hf : f a = true
    · simp [hf]
    · simp only [hf, if_false, Bool.false_or, ← ih]
      by_cases h : ixF f l < 0
      · simp [h]
      · simp [h]; omega
end Go.Proofs.Ytnafnhpajkhgkaa
/- Equality of spots; lists of spots that hold one. No condition. -/
namespace Go.Proofs.Ytnafnhpajkhgkaa
set_option linter.unusedVariables false
set_option linter.unusedSimpArgs false
open Go.RowKit Mem Wk
attribute [local irreducible] Calls Wk.S Wk.C Wk.E Wk.X Wk.T Calm.wpLex
theorem u_i8 : Try.prog.underlying 22 = some (.int .i8) := by kernel_rfl
theorem part_i8 (cs : Array Value) (off : Nat) (v : Value) (h : cs[off]? = some v) (w : World) : (part 22 cs off).run Try.prog w = .ok v w := by
  simp [part, isAgg, run_underlying u_i8, h]
theorem part_0 (u v : Value) (w : World) : (part 22 #[u, v] 0).run Try.prog w = .ok u w := part_i8 _ _ _ rfl w
theorem part_1 (u v : Value) (w : World) : (part 22 #[u, v] 1).run Try.prog w = .ok v w := part_i8 _ _ _ rfl w
theorem run_eqSpot (a b c d : Int) (w : World) : (Op.equal 52 (.agg #[.int .i8 a, .int .i8 b]) (.agg #[.int .i8 c, .int .i8 d])).run Try.prog w = .ok (decide (a = c) && decide (b = d)) w := by
  have e0 : ∀ x y : Int, (x == y) = decide (x = y) := fun x y => rfl
  unfold Op.equal Op.maxDepth
  rw [show (10000 : Nat) = 9998 + 1 + 1 by rfl]
  unfold Op.equalIn
  simp only [run_underlying Try.underlying52, Sem.run_bind, Result.andThen_ok]
  by_cases h1 : a = c <;> by_cases h2 : b = d <;> simp [part_0, part_1, run_equalIn_int w _ _ _ _ _ _ u_i8, h1, h2]
theorem gd_eqSpot (op : BinOp) (x y : Operand) (a b : Array Value) (w : World) : (eqGuard op 52 x y (.agg a) (.agg b)).run Try.prog w = .ok () w := by
  have h : (Program.eqGuardType Try.prog Try.prog.depth 52) = false := by kernel_rfl
  unfold eqGuard
  split <;> simp [h]
namespace Wk
variable {n : Nat} {O : List Nat} {w0 : World} {l : List (Nat × Value)} {L : List (Nat × TypeId × Array Value)} {o : Oper} {x y : Operand}
theorem r_eqSpot {t' : Nat} {a b c d : Int} (ho : o.op = .binOp .eql 52 x y t') (hx : ev l x = some (.agg #[.int .i8 a, .int .i8 b])) (hy : ev l y = some (.agg #[.int .i8 c, .int .i8 d])) : Rn Try.prog n O w0 l L o (.bool (decide (a = c) && decide (b = d))) := fun ac w hF hL => by
  simp [execOp, ho, hF.eval hx, hF.eval hy, gd_eqSpot, binOp, run_eqSpot]
theorem r_neqSpot {t' : Nat} {a b c d : Int} (ho : o.op = .binOp .neq 52 x y t') (hx : ev l x = some (.agg #[.int .i8 a, .int .i8 b])) (hy : ev l y = some (.agg #[.int .i8 c, .int .i8 d])) : Rn Try.prog n O w0 l L o (.bool (!(decide (a = c) && decide (b = d)))) := fun ac w hF hL => by
  simp [execOp, ho, hF.eval hx, hF.eval hy, gd_eqSpot, binOp, run_eqSpot]
end Wk
def eqSp (a b : Sp) : Bool := decide (a.x = b.x) && decide (a.y = b.y)
set_option maxRecDepth 100000 in
theorem ixSpot_any (l : List Sp) (x y : Int) (A : Option Addr) (cap : Nat) (w : World) (hS : SlA [] w 2 A (l.map Sp.cells)) (hn : l.length ≤ maxLen) :
    Calls Try.prog 108 #[.slice A l.length cap, .agg #[.int .i8 x, .int .i8 y]] w fun e w' => e = .returned (.int .i64 (ixF (fun s => eqSp ⟨x, y⟩ s) l)) ∧ Below w.heap.size w w' := by
  unfold maxLen at hn
  refine enter2 Try.func108 rfl rfl rfl (Own.start w) ?_
  repeat' (first
    | (refine s_g ?_; first
      | (refine s_k 0 rfl ?_; refine s_val rfl rfl rfl (r_move rfl rfl) ?_)
      | (refine s_k 8 rfl ?_; first | (refine' s_val rfl rfl rfl (r_ldv rfl rfl ?qm ?qv) ?_; (case qm => (exact zMm)); (case qv => (exact zLe))) | (refine' s_val rfl rfl rfl (r_ldo rfl rfl ?qw (by simp) ?qv) ?_; (case qw => assumption); (case qv => (exact zLe))))
      | (refine s_k 1 rfl ?_; refine s_val rfl rfl rfl (r_assign rfl rfl) ?_)
      | (refine s_k 13 rfl ?_; first | refine s_val rfl rfl rfl (r_lss rfl rfl rfl) ?_ | refine s_val rfl rfl rfl (r_eql rfl rfl rfl) ?_ | refine s_val rfl rfl rfl (r_add rfl rfl rfl (wrap_in (by simp only [lo, hi]; omega))) ?_)
      | (refine s_k 25 rfl ?_; first | refine s_val rfl rfl rfl (r_ixN tb rfl rfl rfl rfl (by omega)) ?_ | refine s_val rfl rfl rfl (r_ixA tb rfl rfl rfl rfl (by omega) (by omega)) ?_ | refine s_val rfl rfl rfl (r_ixO tb rfl rfl rfl rfl (by omega)) ?_)
      | (refine s_k 4 rfl ?_; first | refine s_boxA rfl rfl rfl rfl rfl fun blk => ?_ | refine s_box1 rfl rfl rfl rfl rfl rfl fun blk => ?_)
      | (refine s_k 36 rfl ?_; refine s_val rfl rfl rfl (r_len tb rfl rfl rfl) ?_)
      | refine s_nil ?_)
    | (refine c_g ?_; first | refine c_seq ?_ | refine c_region ?_ | (refine c_gc ?_; first | refine c_cond1 rfl zTr ?_ | refine c_cond0 rfl zTr ?_ | refine z_condd1 rfl ?_ | refine z_condd0 rfl ?_ | refine z_conddn1 rfl ?_ | refine z_conddn0 rfl ?_ | refine c_condd rfl (fun hc => ?_) (fun hc => ?_) | refine c_conddn rfl (fun hc => ?_) (fun hc => ?_) | refine c_condn rfl (fun hc => ?_) (fun hc => ?_) | refine c_cond rfl (fun hc => ?_) (fun hc => ?_)) | refine c_block ?_ | refine c_skip ?_ | refine c_exit ?_ | refine c_ret ?_)
    | (refine e_g ?_; first | refine e_then ?_ | refine e_blkn ?_ | refine e_thenx ?_ | refine e_thenr ?_ | refine e_blkr ?_ | refine e_blkx ?_ | refine e_blky rfl ?_))
  refine c_loop (fun k : Nat => l.length - k) (fun k => k ≤ l.length ∧ ∀ j s, j < k → l[j]? = some s → eqSp ⟨x, y⟩ s = false) (fun k => [(8, .int .i64 (k : Int)), (7, .int .i64 (l.length : Int)), (0, .slice A l.length cap), (3, .pointer (some ⟨blk, 0, none⟩))]) (fun _ => [(blk, 52, #[.int .i8 x, .int .i8 y])]) 0 ⟨by omega, fun j c hj => by omega⟩ ?hs rfl ?_
  case hs => exact sub_cons rfl (sub_cons rfl (sub_cons rfl (sub_cons rfl sub_nil)))
  rintro k ⟨hk, hF⟩
  by_cases hlt : k < l.length
  · have hx : l[k]? = some l[k] := List.getElem?_eq_getElem hlt
    have hx' : (l.map Sp.cells)[k]? = some l[k].cells := by simp [hx]
    have hlt' : k < (l.map Sp.cells).length := by simpa using hlt
    generalize l[k] = s at *
    repeat' (first
      | (refine s_g ?_; first
      | (refine s_k 0 rfl ?_; refine s_val rfl rfl rfl (r_move rfl rfl) ?_)
      | (refine s_k 8 rfl ?_; first | refine s_val rfl rfl rfl (r_ldS tb rfl hS rfl hx' rfl) ?_ | (refine' s_val rfl rfl rfl (r_ldv rfl rfl ?qm ?qv) ?_; (case qm => (exact zMm)); (case qv => (exact zLe))) | (refine' s_val rfl rfl rfl (r_ldo rfl rfl ?qw (by simp) ?qv) ?_; (case qw => assumption); (case qv => (exact zLe))))
      | (refine s_k 1 rfl ?_; refine s_val rfl rfl rfl (r_assign rfl rfl) ?_)
      | (refine s_k 13 rfl ?_; first | refine s_val rfl rfl rfl (r_eqSpot (a := x) (b := y) (c := s.x) (d := s.y) rfl rfl rfl) ?_ | refine s_val rfl rfl rfl (r_lss rfl rfl rfl) ?_ | refine s_val rfl rfl rfl (r_eql rfl rfl rfl) ?_ | refine s_val rfl rfl rfl (r_add rfl rfl rfl (wrap_in (by simp only [lo, hi]; omega))) ?_)
      | (refine s_k 25 rfl ?_; first | refine s_val rfl rfl rfl (r_ixS tb rfl hS rfl rfl rfl (by simp) hlt') ?_ | refine s_val rfl rfl rfl (r_ixN tb rfl rfl rfl rfl (by omega)) ?_ | refine s_val rfl rfl rfl (r_ixA tb rfl rfl rfl rfl (by omega) (by omega)) ?_ | refine s_val rfl rfl rfl (r_ixO tb rfl rfl rfl rfl (by omega)) ?_)
      | (refine s_k 4 rfl ?_; first | refine s_boxA rfl rfl rfl rfl rfl fun blk => ?_ | refine s_box1 rfl rfl rfl rfl rfl rfl fun blk => ?_)
      | (refine s_k 36 rfl ?_; refine s_val rfl rfl rfl (r_len tb rfl rfl rfl) ?_)
      | refine s_nil ?_)
      | (refine c_g ?_; first | refine c_seq ?_ | refine c_region ?_ | (refine c_gc ?_; first | refine c_cond1 rfl zTr ?_ | refine c_cond0 rfl zTr ?_ | refine z_condd1 rfl ?_ | refine z_condd0 rfl ?_ | refine z_conddn1 rfl ?_ | refine z_conddn0 rfl ?_ | refine c_condd rfl (fun hc => ?_) (fun hc => ?_) | refine c_conddn rfl (fun hc => ?_) (fun hc => ?_) | refine c_condn rfl (fun hc => ?_) (fun hc => ?_) | refine c_cond rfl (fun hc => ?_) (fun hc => ?_)) | refine c_block ?_ | refine c_skip ?_ | refine c_exit ?_ | refine c_ret ?_)
      | (refine e_g ?_; first | refine e_then ?_ | refine e_blkn ?_ | refine e_thenx ?_ | refine e_thenr ?_ | refine e_blkr ?_ | refine e_blkx ?_ | refine e_blky rfl ?_)
      | (refine x_g ?_; first
      | (refine x_k 0 rfl ?_; (refine x_val rfl rfl rfl (r_move rfl rfl) ?hp ?_; (case hp => exact rfl)))
      | (refine x_k 8 rfl ?_; first | (refine x_val rfl rfl rfl (r_ldS tb rfl hS rfl hx' rfl) ?hp ?_; (case hp => exact rfl)) | (refine' x_val rfl rfl rfl (r_ldv rfl rfl ?qm ?qv) ?hp ?_; (case qm => (exact zMm)); (case qv => (exact zLe)); (case hp => exact rfl)) | (refine' x_val rfl rfl rfl (r_ldo rfl rfl ?qw (by simp) ?qv) ?hp ?_; (case qw => assumption); (case qv => (exact zLe)); (case hp => exact rfl)))
      | (refine x_k 1 rfl ?_; (refine x_val rfl rfl rfl (r_assign rfl rfl) ?hp ?_; (case hp => exact rfl)))
      | (refine x_k 13 rfl ?_; first | (refine x_val rfl rfl rfl (r_eqSpot (a := x) (b := y) (c := s.x) (d := s.y) rfl rfl rfl) ?hp ?_; (case hp => exact rfl)) | (refine x_val rfl rfl rfl (r_lss rfl rfl rfl) ?hp ?_; (case hp => exact rfl)) | (refine x_val rfl rfl rfl (r_eql rfl rfl rfl) ?hp ?_; (case hp => exact rfl)) | (refine x_val rfl rfl rfl (r_add rfl rfl rfl (wrap_in (by simp only [lo, hi]; omega))) ?hp ?_; (case hp => exact rfl)))
      | (refine x_k 25 rfl ?_; first | (refine x_val rfl rfl rfl (r_ixS tb rfl hS rfl rfl rfl (by simp) hlt') ?hp ?_; (case hp => exact rfl)) | (refine x_val rfl rfl rfl (r_ixN tb rfl rfl rfl rfl (by omega)) ?hp ?_; (case hp => exact rfl)) | (refine x_val rfl rfl rfl (r_ixA tb rfl rfl rfl rfl (by omega) (by omega)) ?hp ?_; (case hp => exact rfl)) | (refine x_val rfl rfl rfl (r_ixO tb rfl rfl rfl rfl (by omega)) ?hp ?_; (case hp => exact rfl)))
      | (refine x_k 4 rfl ?_; (refine x_boxA rfl rfl rfl rfl rfl ?hp (fun blk => ?_); (case hp => exact rfl)))
      | (refine x_k 36 rfl ?_; (refine x_val rfl rfl rfl (r_len tb rfl rfl rfl) ?hp ?_; (case hp => exact rfl)))
      | refine x_nil0 ?_
      | refine x_nil ?_)
      | (refine' c_drawX (id := 4) [(Sum.inl _ : Calm.Plan), (Sum.inl _ : Calm.Plan), (Sum.inl _ : Calm.Plan), (Sum.inl _ : Calm.Plan), (Sum.inl _ : Calm.Plan), (Sum.inl _ : Calm.Plan)] (by kernel_rfl) (by kernel_rfl) (by kernel_rfl) ?_)
      | (refine e_ret1 (by simp) rfl (re_tmp rfl) fun w hL => ⟨?_, hL.toBelow⟩)
      | (refine e_round (k + 1) (by omega) ⟨by omega, fun j c hj hjc => ?_⟩ ?hs rfl; case hs => exact sub_cons rfl (sub_cons rfl (sub_cons rfl (sub_cons rfl sub_nil)))))
    · rw [ixF_some (f := fun s => eqSp ⟨x, y⟩ s) hx (by assumption) hF]
    · by_cases e : j = k
      · subst e; rw [hx] at hjc; injection hjc with hjc; subst hjc; assumption
      · exact hF j c (by omega) hjc
  · repeat' (first
      | (refine s_g ?_; first
      | (refine s_k 0 rfl ?_; refine s_val rfl rfl rfl (r_move rfl rfl) ?_)
      | (refine s_k 8 rfl ?_; first | (refine' s_val rfl rfl rfl (r_ldv rfl rfl ?qm ?qv) ?_; (case qm => (exact zMm)); (case qv => (exact zLe))) | (refine' s_val rfl rfl rfl (r_ldo rfl rfl ?qw (by simp) ?qv) ?_; (case qw => assumption); (case qv => (exact zLe))))
      | (refine s_k 1 rfl ?_; refine s_val rfl rfl rfl (r_assign rfl rfl) ?_)
      | (refine s_k 13 rfl ?_; first | refine s_val rfl rfl rfl (r_lss rfl rfl rfl) ?_ | refine s_val rfl rfl rfl (r_eql rfl rfl rfl) ?_ | refine s_val rfl rfl rfl (r_add rfl rfl rfl (wrap_in (by simp only [lo, hi]; omega))) ?_)
      | (refine s_k 25 rfl ?_; first | refine s_val rfl rfl rfl (r_ixN tb rfl rfl rfl rfl (by omega)) ?_ | refine s_val rfl rfl rfl (r_ixA tb rfl rfl rfl rfl (by omega) (by omega)) ?_ | refine s_val rfl rfl rfl (r_ixO tb rfl rfl rfl rfl (by omega)) ?_)
      | (refine s_k 4 rfl ?_; first | refine s_boxA rfl rfl rfl rfl rfl fun blk => ?_ | refine s_box1 rfl rfl rfl rfl rfl rfl fun blk => ?_)
      | (refine s_k 36 rfl ?_; refine s_val rfl rfl rfl (r_len tb rfl rfl rfl) ?_)
      | refine s_nil ?_)
      | (refine c_g ?_; first | refine c_seq ?_ | refine c_region ?_ | (refine c_gc ?_; first | refine c_cond1 rfl zTr ?_ | refine c_cond0 rfl zTr ?_ | refine z_condd1 rfl ?_ | refine z_condd0 rfl ?_ | refine z_conddn1 rfl ?_ | refine z_conddn0 rfl ?_ | refine c_condd rfl (fun hc => ?_) (fun hc => ?_) | refine c_conddn rfl (fun hc => ?_) (fun hc => ?_) | refine c_condn rfl (fun hc => ?_) (fun hc => ?_) | refine c_cond rfl (fun hc => ?_) (fun hc => ?_)) | refine c_block ?_ | refine c_skip ?_ | refine c_exit ?_ | refine c_ret ?_)
      | (refine e_g ?_; first | refine e_then ?_ | refine e_blkn ?_ | refine e_thenx ?_ | refine e_thenr ?_ | refine e_blkr ?_ | refine e_blkx ?_ | refine e_blky rfl ?_)
      | (refine e_ret1 (by simp) rfl (re_tmp rfl) fun w hL => ⟨?_, hL.toBelow⟩))
    rw [ixF_none (fun c hc => by obtain ⟨j, hj⟩ := List.mem_iff_getElem?.1 hc; exact hF j c (by have := (List.getElem?_eq_some_iff.1 hj).1; omega) hj)]
set_option maxRecDepth 100000 in
theorem hasSpot_any (l : List Sp) (x y : Int) (A : Option Addr) (cap : Nat) (w : World) (hS : SlA [] w 2 A (l.map Sp.cells)) (hn : l.length ≤ maxLen) :
    Calls Try.prog 97 #[.slice A l.length cap, .agg #[.int .i8 x, .int .i8 y]] w fun e w' => e = .returned (.bool (l.any fun s => eqSp ⟨x, y⟩ s)) ∧ Below w.heap.size w w' := by
  refine enter2 Try.func97 rfl rfl rfl (Own.start w) ?_
  repeat' (first
    | (refine s_g ?_; first
      | (refine s_k 0 rfl ?_; refine s_val rfl rfl rfl (r_move rfl rfl) ?_)
      | (refine s_k 8 rfl ?_; first | (refine' s_val rfl rfl rfl (r_ldv rfl rfl ?qm ?qv) ?_; (case qm => (exact zMm)); (case qv => (exact zLe))) | (refine' s_val rfl rfl rfl (r_ldo rfl rfl ?qw (by simp) ?qv) ?_; (case qw => assumption); (case qv => (exact zLe))))
      | (refine s_k 1 rfl ?_; refine s_val rfl rfl rfl (r_assign rfl rfl) ?_)
      | (refine s_k 13 rfl ?_; refine s_val rfl rfl rfl (r_geq rfl rfl rfl) ?_)
      | (refine s_k 35 rfl ?_; (refine s_call Try.func108 (by kernel_rfl) rfl rfl rfl rfl rfl rfl (fun w hL => ixSpot_any l x y A cap _ (hS.at_ hL) hn) ?_))
      | (refine s_k 4 rfl ?_; first | refine s_boxA rfl rfl rfl rfl rfl fun blk => ?_ | refine s_box1 rfl rfl rfl rfl rfl rfl fun blk => ?_)
      | refine s_nil ?_)
    | (refine c_g ?_; first | refine c_seq ?_ | refine c_region ?_ | (refine c_gc ?_; first | refine c_cond1 rfl zTr ?_ | refine c_cond0 rfl zTr ?_ | refine z_condd1 rfl ?_ | refine z_condd0 rfl ?_ | refine z_conddn1 rfl ?_ | refine z_conddn0 rfl ?_ | refine c_condd rfl (fun hc => ?_) (fun hc => ?_) | refine c_conddn rfl (fun hc => ?_) (fun hc => ?_) | refine c_condn rfl (fun hc => ?_) (fun hc => ?_) | refine c_cond rfl (fun hc => ?_) (fun hc => ?_)) | refine c_block ?_ | refine c_skip ?_ | refine c_exit ?_ | refine c_ret ?_)
    | (refine e_g ?_; first | refine e_then ?_ | refine e_blkn ?_ | refine e_thenx ?_ | refine e_thenr ?_ | refine e_blkr ?_ | refine e_blkx ?_ | refine e_blky rfl ?_)
    | (refine e_ret1 (by simp) rfl (re_tmp rfl) fun w hL => ⟨?_, hL.toBelow⟩))
  all_goals (rw [← ixF_any]; done)
end Go.Proofs.Ytnafnhpajkhgkaa
