import Derived.Test.YtnfdefeafhepkaaQG15
import Derived.Test.YtnfdefeafhepkaaQG18
import Derived.Test.YtnfdefeafhepkaaQG20
import Derived.Test.YtnfdefeafhepkaaQG22
/- All sides of a pasture that a function accepts; the hurdles that stand: both programs'. No condition. -/
namespace Go.Proofs.Ytnfdefeafhepkaa
set_option linter.unusedVariables false
set_option linter.unusedSimpArgs false
open Go.RowKit Mem Wk

theorem run_callb {P : Program} {o : Oper} {f : FuncId} {fn : Func} {xs : Array Operand} {ts : Array TypeId} {fx : Operand} {fs caps vs : List Value} {a : Act} (hf : P.funcs[f]? = some fn) (hname : (fn.name == "runtime.NumGoroutine") = false) (hb : fn.body.isSome = true) (hop : o.op = .call { callee := .value fx, args := xs, argTypes := ts })
    (hfx : a.eval fx = .func (.func f) fs.toArray caps.toArray) (hargs : xs.toList.map a.eval = vs) (w : World) : (execOp a.eval o).run P w = .ok (.enter f (fs ++ vs ++ caps).toArray) w := by
  have he := run_callFunc hf hname hb (fs ++ vs ++ caps).toArray w
  have hm : xs.map a.eval = vs.toArray := by rw [← hargs]; apply Array.ext'; simp
  unfold execOp
  rw [List.append_assoc] at he ⊢
  simp [hop, resolve, Deferred.ofValue, invoke, hfx, hm, he]
theorem s_callb {P : Program} {ops : Array Oper} {Q : Exit → Act → World → Prop} {n : Nat} {O : List Nat} {w0 : World} {o : Oper} {rest : List Oper} {l : List (Nat × Value)} {L : List (Nat × TypeId × Array Value)} {f : FuncId} {fn : Func} {xs : Array Operand} {ts : Array TypeId} {fx : Operand} {fs caps vs : List Value} {d : Nat} {v : Value} (hf : P.funcs[f]? = some fn) (hname : (fn.name == "runtime.NumGoroutine") = false) (hb : fn.body.isSome = true) (hg : o.guard = none) (hd : o.dst = some d) (hn : Nat.blt d n = true)
    (hop : o.op = .call { callee := .value fx, args := xs, argTypes := ts }) (hfx : ev l fx = some (.func (.func f) fs.toArray caps.toArray)) (hargs : evs l xs.toList = some vs)
    (hc : ∀ w, Kn O w0 w L → Calls P f (fs ++ vs ++ caps).toArray w fun e w' => e = .returned v ∧ Below w.heap.size w w') (h : S P ops Q n O w0 rest ((d, v) :: l) L) : S P ops Q n O w0 (o :: rest) l L := fun a w hF hL =>
  wpList_plain hg fun K hK => by
    unfold Oper.wp
    rw [run_callb hf hname hb hop (hF.eval hfx) (hF.evals hargs) w]
    refine (hc w hL).mono fun e w' ⟨he, hbl⟩ => ?_
    subst he
    rw [hd]
    exact hK _ _ (h _ _ (hF.put hn _) (Own.ext hL hbl))
attribute [local irreducible] Calls Wk.S Wk.C Wk.E Wk.X Wk.T Wk.anV Wk.orV Wk.andV Wk.shlV Wk.shrV Calm.wpLex
/-! lists of hurdles -/
def flH (l : List Hd) : List Value := (l.map Hd.cells).flatten
theorem flH_snoc (l : List Hd) (a : Hd) : flH (l ++ [a]) = flH l ++ a.cells := by simp [flH]
theorem iHurdle : (Try.prog.info? 139).map (fun i => (i.zero, i.size, i.bytes)) = some (some (.agg #[.int .i8 0, .int .i8 0, .bool false]), 3, 3) := by kernel_rfl
theorem uHurdleS : Try.prog.underlying 99 = some (.slice 139) := by kernel_rfl
theorem slHurdle0 (w : World) : (Instr.buildSlice 99 0 #[]).run Try.prog w = .ok (.slice (some ⟨w.heap.size, 0, none⟩) 0 0) (w.alloc (.cells #[] 139 (0, 0))) := by kernel_rfl
theorem slHurdle1 (a b c : Value) (w : World) : (Instr.buildSlice 99 1 #[(0, .agg #[a, b, c])]).run Try.prog w = .ok (.slice (some ⟨w.heap.size, 0, none⟩) 1 1) (w.alloc (.cells #[a, b, c] 139 (0, 0))) := by kernel_rfl
theorem slBool2 (w : World) : (Instr.buildSlice 189 2 #[(0, .bool false), (1, .bool true)]).run Try.prog w = .ok (.slice (some ⟨w.heap.size, 0, none⟩) 2 2) (w.alloc (.cells #[.bool false, .bool true] 4 (0, 0))) := by kernel_rfl
theorem Wk.Ap.hd {n cap : Nat} {cur : Array Value} {l : List Hd} (h : Ap 3 n cap cur (flH l)) {i : Nat} {s : Hd} (hi : l[i]? = some s) : (0 + i * 3 + 3 ≤ cur.size ∧ cur.extract (0 + i * 3) (0 + i * 3 + 3) = #[.int .i8 s.x, .int .i8 s.y, .bool s.s]) ∧ 0 + i * 3 + 0 + 2 ≤ cur.size ∧ cur.extract (0 + i * 3 + 0) (0 + i * 3 + 0 + 2) = #[.int .i8 s.x, .int .i8 s.y] := by
  simp only [Nat.zero_add, Nat.add_zero]
  have hx : (l.map Hd.cells)[i]? = some s.cells := by simp [hi]
  have he := h.elem (lenHd l) hx
  have h0 : cur[i * 3 + 0]? = some (.int .i8 s.x) := he 0 (by omega)
  have h1 : cur[i * 3 + 1]? = some (.int .i8 s.y) := he 1 (by omega)
  have h2 : cur[i * 3 + 2]? = some (.bool s.s) := he 2 (by omega)
  obtain ⟨q0, e0⟩ := Array.getElem?_eq_some_iff.1 h0
  obtain ⟨q1, e1⟩ := Array.getElem?_eq_some_iff.1 h1
  obtain ⟨q2, e2⟩ := Array.getElem?_eq_some_iff.1 h2
  refine ⟨⟨by omega, ?_⟩, by omega, ?_⟩
  · apply Array.ext
    · simp; omega
    · intro j hj1 hj2
      simp only [List.size_toArray, List.length_cons, List.length_nil] at hj2
      rcases (by omega : j = 0 ∨ j = 1 ∨ j = 2) with rfl | rfl | rfl <;> simp_all [Array.getElem_extract]
  · apply Array.ext
    · simp; omega
    · intro j hj1 hj2
      simp only [List.size_toArray, List.length_cons, List.length_nil] at hj2
      rcases (by omega : j = 0 ∨ j = 1) with rfl | rfl <;> simp_all [Array.getElem_extract]
theorem Wk.Ap.slH {n cap : Nat} {cur : Array Value} {l : List Hd} (h : Ap 3 n cap cur (flH l)) {w : World} {g : Nat} {T : TypeId} (hg : w.heap[g]? = some (.cells cur T (0, 0))) : n = l.length ∧ SlA [] w 3 (some ⟨g, 0, none⟩) (l.map Hd.cells) :=
  ⟨by simpa using h.count (lenHd l) (by omega), h.slA (lenHd l) hg⟩
/-! sides, plainly -/
def sdB (f : Hd → Bool) (c : Sp) (j : Nat) : List Hd := ([⟨c.x, c.y, false⟩, ⟨c.x, c.y, true⟩].take j).filter f
def sdL (f : Hd → Bool) (W k : Nat) : List Hd := ((List.range k).map (cellN W)).flatMap fun c => sdB f c 2
theorem sdB_len (f : Hd → Bool) (c : Sp) (j : Nat) : (sdB f c j).length ≤ 2 := by
  unfold sdB
  refine Nat.le_trans (List.length_filter_le _ _) ?_
  simp [List.length_take]; omega
theorem sdL_snoc (f : Hd → Bool) (W k : Nat) : sdL f W (k + 1) = sdL f W k ++ sdB f (cellN W k) 2 := by
  unfold sdL; rw [List.range_succ, List.map_append, List.flatMap_append]; simp
theorem sdL_len (f : Hd → Bool) (W : Nat) : ∀ k, (sdL f W k).length ≤ 2 * k
  | 0 => by simp [sdL]
  | k + 1 => by
    rw [sdL_snoc, List.length_append]
    have := sdL_len f W k
    have := sdB_len f (cellN W k) 2
    omega
theorem sdB_filter (f g : Hd → Bool) (c : Sp) (j : Nat) : (sdB f c j).filter g = sdB (fun h => f h && g h) c j := by
  unfold sdB; rw [List.filter_filter]; congr 1; funext h; exact Bool.and_comm _ _
theorem sdL_filter (f g : Hd → Bool) (W : Nat) : ∀ k, (sdL f W k).filter g = sdL (fun h => f h && g h) W k
  | 0 => by simp [sdL]
  | k + 1 => by rw [sdL_snoc, sdL_snoc, List.filter_append, sdL_filter f g W k, sdB_filter]
theorem sdL_mem {f : Hd → Bool} {W H : Nat} {h : Hd} (hm : h ∈ sdL f W (H * W)) : f h = true := by
  unfold sdL sdB at hm
  simp only [List.mem_flatMap, List.mem_filter] at hm
  obtain ⟨c, _, _, e⟩ := hm
  exact e
theorem sdB_0 (f : Hd → Bool) (c : Sp) : sdB f c 0 = [] := by simp [sdB]
theorem sdB_1y {f : Hd → Bool} {c : Sp} (h : f ⟨c.x, c.y, false⟩ = true) : sdB f c 1 = sdB f c 0 ++ [⟨c.x, c.y, false⟩] := by simp [sdB, h]
theorem sdB_1n {f : Hd → Bool} {c : Sp} (h : f ⟨c.x, c.y, false⟩ = false) : sdB f c 1 = sdB f c 0 := by simp [sdB, h]
theorem sdB_2y {f : Hd → Bool} {c : Sp} (h : f ⟨c.x, c.y, true⟩ = true) : sdB f c 2 = sdB f c 1 ++ [⟨c.x, c.y, true⟩] := by
  simp only [sdB, List.take]; rw [show [(⟨c.x, c.y, false⟩ : Hd), ⟨c.x, c.y, true⟩] = [⟨c.x, c.y, false⟩] ++ [⟨c.x, c.y, true⟩] from rfl, List.filter_append]; simp [h]
theorem sdB_2n {f : Hd → Bool} {c : Sp} (h : f ⟨c.x, c.y, true⟩ = false) : sdB f c 2 = sdB f c 1 := by
  simp only [sdB, List.take]; rw [show [(⟨c.x, c.y, false⟩ : Hd), ⟨c.x, c.y, true⟩] = [⟨c.x, c.y, false⟩] ++ [⟨c.x, c.y, true⟩] from rfl, List.filter_append]; simp [h]
theorem cellN_lt {W H k : Nat} (h : k < H * W) : k % W < W ∧ k / W < H := by
  have hW : 0 < W := by
    rcases Nat.eq_zero_or_pos W with e | e
    · subst e; simp at h
    · exact e
  exact ⟨Nat.mod_lt _ hW, by rw [Nat.div_lt_iff_lt_mul hW]; exact h⟩
/-- A closure over sides between cells that only looks. -/
def LooksHd (w : World) (cf : FuncId) (fs caps : List Value) (f : Hd → Bool) (p : Nat → Int) : Prop :=
  ∀ h : Hd, isH p h = true → ∀ w', Below w.heap.size w w' → Calls Try.prog cf (fs ++ [Value.agg #[.int .i8 h.x, .int .i8 h.y, .bool h.s]] ++ caps).toArray w' fun e w'' => e = .returned (.bool (f h)) ∧ Below w'.heap.size w' w''
set_option maxRecDepth 100000 in
set_option maxHeartbeats 1600000 in
theorem sides_any (p : Nat → Int) (cs : Array Value) (W H : Nat) (cf : FuncId) (fn : Func) (fs caps : List Value) (acc : Hd → Bool) (w : World) (hp : Pv p cs) (hW : p 0 = (W : Int)) (hH : p 1 = (H : Int)) (hW10 : W ≤ 10) (hH10 : H ≤ 10) (hf : Try.prog.funcs[cf]? = some fn) (hname : (fn.name == "runtime.NumGoroutine") = false) (hb : fn.body.isSome = true) (hc : LooksHd w cf fs caps acc p) :
    Calls Try.prog 137 #[.agg cs, .func (.func cf) fs.toArray caps.toArray] w (NewS 139 3 (flH (sdL (fun h => isH p h && acc h) W (H * W))) w) := by
  have hsz := hp.size
  have hHW : H * W ≤ 10 * 10 := Nat.mul_le_mul hH10 hW10
  have hall := all_any p cs W H
  refine enter2 Try.func137 rfl rfl rfl (Own.start w) ?_
  repeat' (first
    | (refine s_g ?_; first
      | (refine s_gd rfl ?_; first | refine s_gd1 rfl rfl zTr ?_ | refine s_gd0 rfl rfl rfl zTr ?_ | refine s_gd00 rfl rfl zTr ?_ | refine s_gp1 rfl rfl rfl (fun hc => ?_) (fun hc => ?_) | refine s_gp0 rfl rfl rfl (fun hc => ?_) (fun hc => ?_) | refine s_gnp1 rfl rfl rfl (fun hc => ?_) (fun hc => ?_) | refine s_gnp0 rfl rfl rfl (fun hc => ?_) (fun hc => ?_) | refine s_gb1 rfl rfl rfl (fun hc => ?_) (fun hc => ?_) | refine s_gb0 rfl rfl rfl (fun hc => ?_) (fun hc => ?_) | refine s_gnb1 rfl rfl rfl (fun hc => ?_) (fun hc => ?_) | refine s_gnb0 rfl rfl rfl (fun hc => ?_) (fun hc => ?_))
      | (refine s_k 0 rfl ?_; refine s_val rfl rfl rfl (r_move rfl rfl) ?_)
      | (refine s_k 8 rfl ?_; first | (refine' s_val rfl rfl rfl (r_ldv rfl rfl ?qm ?qv) ?_; (case qm => (exact zMm)); (case qv => (exact zLe))) | (refine' s_val rfl rfl rfl (r_ldo rfl rfl ?qw (by simp) ?qv) ?_; (case qw => assumption); (case qv => (exact zLe))))
      | (refine s_k 1 rfl ?_; refine s_val rfl rfl rfl (r_assign rfl rfl) ?_)
      | (refine s_k 13 rfl ?_; first | refine s_val rfl rfl rfl (r_lss rfl rfl rfl) ?_ | refine s_val rfl rfl rfl (r_add rfl rfl rfl (wrap_in (by simp only [lo, hi]; omega))) ?_)
      | (refine s_k 35 rfl ?_; (refine s_callN Try.func68 (by kernel_rfl) rfl rfl rfl rfl rfl rfl (fun w hL => hall w hp hW hH hW10 hH10) fun gl kl capl curl hAl => ?_))
      | (refine s_k 2 rfl ?_; first | refine s_val rfl rfl rfl (r_pick1 rfl rfl zTr rfl) ?_ | refine s_val rfl rfl rfl (r_pick0 rfl rfl zTr rfl) ?_)
      | (refine s_k 25 rfl ?_; first | refine s_val rfl rfl rfl (r_ixN tb rfl rfl rfl rfl (by omega)) ?_ | refine s_val rfl rfl rfl (r_ixA tb rfl rfl rfl rfl (by omega) (by omega)) ?_ | refine s_val rfl rfl rfl (r_ixO tb rfl rfl rfl rfl (by omega)) ?_)
      | (refine s_k 4 rfl ?_; first | refine s_boxA rfl rfl rfl rfl rfl fun blk => ?_ | refine s_box1 rfl rfl rfl rfl rfl rfl fun blk => ?_)
      | (refine s_k 9 rfl ?_; (first | refine s_st1 tb rfl rfl rfl rfl rfl rfl rfl rfl ?_ | refine s_stA tb rfl rfl rfl rfl (by first | rfl | assumption | (apply Pv.size; assumption)) rfl rfl ?_); (first | refine' st0 ?qs ?_ | refine' st1 ?qs ?_ | refine' st2 ?qs ?_ | refine' st3 ?qs ?_ | refine' st4 ?qs ?_ | refine' st5 ?qs ?_ | refine' st6 ?qs ?_ | refine' st7 ?qs ?_ | refine' st8 ?qs ?_ | refine' st9 ?qs ?_ | refine' st10 ?qs ?_ | refine' st11 ?qs ?_); (case qs => (first | exact zSet)))
      | (refine s_k 36 rfl ?_; refine s_val rfl rfl rfl (r_len tb rfl rfl rfl) ?_)
      | (refine s_k 6 rfl ?_; refine s_bsl rfl rfl (fun w => slHurdle0 w) rfl rfl rfl fun blk => ?_)
      | refine s_nil ?_)
    | (refine c_g ?_; first | refine c_seq ?_ | refine c_region ?_ | (refine c_gc ?_; first | refine c_cond1 rfl zTr ?_ | refine c_cond0 rfl zTr ?_ | refine z_condd1 rfl ?_ | refine z_condd0 rfl ?_ | refine z_conddn1 rfl ?_ | refine z_conddn0 rfl ?_ | refine c_condd rfl (fun hc => ?_) (fun hc => ?_) | refine c_conddn rfl (fun hc => ?_) (fun hc => ?_) | refine c_condn rfl (fun hc => ?_) (fun hc => ?_) | refine c_cond rfl (fun hc => ?_) (fun hc => ?_)) | refine c_block ?_ | refine c_skip ?_ | refine c_exit ?_ | refine c_ret ?_)
    | (refine e_g ?_; first | refine e_then ?_ | refine e_blkn ?_ | refine e_thenx ?_ | refine e_thenr ?_ | refine e_blkr ?_ | refine e_blkx ?_ | refine e_blky rfl ?_))
  rename_i b2
  obtain rfl : kl = H * W := by have := hAl.cnt; rw [allL_len] at this; exact this
  generalize hF : (fun h => isH p h && acc h) = F at *
  refine c_loop (ι := Nat × Nat × Nat × Array Value) (fun i => H * W - i.1) (fun i => i.1 ≤ H * W ∧ Ap 3 (sdL F W i.1).length i.2.2.1 i.2.2.2 (flH (sdL F W i.1))) (fun i => [(15, .int .i64 (i.1 : Int)), (14, .int .i64 ((H * W : Nat) : Int)), (13, .slice (some ⟨gl, 0, none⟩) (H * W) capl), (5, .slice (some ⟨i.2.1, 0, none⟩) (sdL F W i.1).length i.2.2.1), (2, .pointer (some ⟨b2, 0, none⟩)), (1, .func (.func cf) fs.toArray caps.toArray)]) (fun i => [(gl, 66, curl), (i.2.1, 139, i.2.2.2), (b2, 36, cs)]) (0, blk, 0, #[]) ⟨by simp, by simpa [sdL, flH] using Ap.nil 3⟩ ?hs rfl ?_
  case hs => (repeat' (first | exact sub_nil | refine sub_cons rfl ?_))
  rintro ⟨k, g, cap, cur⟩ ⟨hk, hA⟩
  simp only at hk hA ⊢
  have hbl := sdL_len F W k
  by_cases hlt : k < H * W
  · have hcl := cellN_lt hlt
    have hsp := hAl.spot (allL_get hlt)
    have hx1 : 0 ≤ (cellN W k).x ∧ (cellN W k).x < 10 := by show 0 ≤ ((k % W : Nat) : Int) ∧ ((k % W : Nat) : Int) < 10; generalize k % W = a at hcl ⊢; omega
    have hy1 : 0 ≤ (cellN W k).y ∧ (cellN W k).y < 10 := by show 0 ≤ ((k / W : Nat) : Int) ∧ ((k / W : Nat) : Int) < 10; generalize k / W = a at hcl ⊢; omega
    have hsn := sdL_snoc F W k
    generalize cellN W k = c at *
    repeat' (first
      | (refine s_g ?_; first
      | (refine s_gd rfl ?_; first | refine s_gd1 rfl rfl zTr ?_ | refine s_gd0 rfl rfl rfl zTr ?_ | refine s_gd00 rfl rfl zTr ?_ | refine s_gp1 rfl rfl rfl (fun hc => ?_) (fun hc => ?_) | refine s_gp0 rfl rfl rfl (fun hc => ?_) (fun hc => ?_) | refine s_gnp1 rfl rfl rfl (fun hc => ?_) (fun hc => ?_) | refine s_gnp0 rfl rfl rfl (fun hc => ?_) (fun hc => ?_) | refine s_gb1 rfl rfl rfl (fun hc => ?_) (fun hc => ?_) | refine s_gb0 rfl rfl rfl (fun hc => ?_) (fun hc => ?_) | refine s_gnb1 rfl rfl rfl (fun hc => ?_) (fun hc => ?_) | refine s_gnb0 rfl rfl rfl (fun hc => ?_) (fun hc => ?_))
      | (refine s_k 0 rfl ?_; refine s_val rfl rfl rfl (r_move rfl rfl) ?_)
      | (refine s_k 8 rfl ?_; first | refine s_val rfl rfl rfl (r_ldN tb rfl rfl m0 rfl hsp.1 hsp.2) ?_ | (refine' s_val rfl rfl rfl (r_ldv rfl rfl ?qm ?qv) ?_; (case qm => (exact zMm)); (case qv => (exact zLe))) | (refine' s_val rfl rfl rfl (r_ldo rfl rfl ?qw (by simp) ?qv) ?_; (case qw => assumption); (case qv => (exact zLe))))
      | (refine s_k 1 rfl ?_; refine s_val rfl rfl rfl (r_assign rfl rfl) ?_)
      | (refine s_k 13 rfl ?_; first | refine s_val rfl rfl rfl (r_lss rfl rfl rfl) ?_ | refine s_val rfl rfl rfl (r_add rfl rfl rfl (wrap_in (by simp only [lo, hi]; omega))) ?_)
      | (refine s_k 2 rfl ?_; first | refine s_val rfl rfl rfl (r_pick1 rfl rfl zTr rfl) ?_ | refine s_val rfl rfl rfl (r_pick0 rfl rfl zTr rfl) ?_)
      | (refine s_k 25 rfl ?_; first | refine s_val rfl rfl rfl (r_ixO tb rfl rfl rfl rfl hlt) ?_ | refine s_val rfl rfl rfl (r_ixN tb rfl rfl rfl rfl (by omega)) ?_ | refine s_val rfl rfl rfl (r_ixA tb rfl rfl rfl rfl (by omega) (by omega)) ?_ | refine s_val rfl rfl rfl (r_ixO tb rfl rfl rfl rfl (by omega)) ?_)
      | (refine s_k 4 rfl ?_; first | refine s_boxA rfl rfl rfl rfl rfl fun blk => ?_ | refine s_box1 rfl rfl rfl rfl rfl rfl fun blk => ?_)
      | (refine s_k 9 rfl ?_; (first | refine s_st1 tb rfl rfl rfl rfl rfl rfl rfl rfl ?_ | refine s_stA tb rfl rfl rfl rfl (by first | rfl | assumption | (apply Pv.size; assumption)) rfl rfl ?_); (first | refine' st0 ?qs ?_ | refine' st1 ?qs ?_ | refine' st2 ?qs ?_ | refine' st3 ?qs ?_ | refine' st4 ?qs ?_ | refine' st5 ?qs ?_ | refine' st6 ?qs ?_ | refine' st7 ?qs ?_ | refine' st8 ?qs ?_ | refine' st9 ?qs ?_ | refine' st10 ?qs ?_ | refine' st11 ?qs ?_); (case qs => (first | exact set_whole (vs := c.cells.toArray) rfl (by simp [Sp.cells, Value.oneCell']) | exact zSet)))
      | (refine s_k 3 rfl ?_; refine s_allocA (t := 66) rfl zImplSpot rfl rfl rfl fun blk => ?_)
      | (refine s_k 36 rfl ?_; refine s_val rfl rfl rfl (r_len tb rfl rfl rfl) ?_)
      | (refine s_k 6 rfl ?_; refine s_bsl rfl rfl (fun w => slBool2 w) rfl rfl rfl fun blk => ?_)
      | refine s_nil ?_)
      | (refine c_g ?_; first | refine c_seq ?_ | refine c_region ?_ | (refine c_gc ?_; first | refine c_cond1 rfl zTr ?_ | refine c_cond0 rfl zTr ?_ | refine z_condd1 rfl ?_ | refine z_condd0 rfl ?_ | refine z_conddn1 rfl ?_ | refine z_conddn0 rfl ?_ | refine c_condd rfl (fun hc => ?_) (fun hc => ?_) | refine c_conddn rfl (fun hc => ?_) (fun hc => ?_) | refine c_condn rfl (fun hc => ?_) (fun hc => ?_) | refine c_cond rfl (fun hc => ?_) (fun hc => ?_)) | refine c_block ?_ | refine c_skip ?_ | refine c_exit ?_ | refine c_ret ?_)
      | (refine e_g ?_; first | refine e_then ?_ | refine e_blkn ?_ | refine e_thenx ?_ | refine e_thenr ?_ | refine e_blkr ?_ | refine e_blkx ?_ | refine e_blky rfl ?_))
    rename_i b7
    refine c_loop (ι := Nat × Nat × Nat × Array Value) (fun i => 2 - i.1) (fun i => i.1 ≤ 2 ∧ Ap 3 (sdL F W k ++ sdB F c i.1).length i.2.2.1 i.2.2.2 (flH (sdL F W k ++ sdB F c i.1))) (fun i => [(21, .int .i64 (i.1 : Int)), (20, .int .i64 2), (19, .slice (some ⟨blk, 0, none⟩) 2 2), (7, .pointer (some ⟨b7, 0, none⟩)), (15, .int .i64 (k : Int)), (14, .int .i64 ((H * W : Nat) : Int)), (13, .slice (some ⟨gl, 0, none⟩) (H * W) capl), (5, .slice (some ⟨i.2.1, 0, none⟩) (sdL F W k ++ sdB F c i.1).length i.2.2.1), (2, .pointer (some ⟨b2, 0, none⟩)), (1, .func (.func cf) fs.toArray caps.toArray)]) (fun i => [(blk, 4, #[.bool false, .bool true]), (b7, 66, #[.int .i8 c.x, .int .i8 c.y]), (gl, 66, curl), (i.2.1, 139, i.2.2.2), (b2, 36, cs)]) (0, g, cap, cur) ⟨by simp, by simpa [sdB_0] using hA⟩ ?hs rfl ?_
    case hs => (simp only [sdB_0, List.append_nil]; repeat' (first | exact sub_nil | refine sub_cons rfl ?_))
    rintro ⟨j, g, cap, cur⟩ ⟨hj, hA⟩
    simp only at hj hA ⊢
    have hbj := sdB_len F c j
    have hlen : (sdL F W k ++ sdB F c j).length ≤ 202 := by rw [List.length_append]; omega
    by_cases hlt2 : j < 2
    · rcases (by omega : j = 0 ∨ j = 1) with rfl | rfl
      · have hl2 : (#[.bool false, .bool true] : Array Value)[0 + 0 * 1 + 0]? = some (.bool false) := rfl
        have hFv : F ⟨c.x, c.y, false⟩ = (isH p ⟨c.x, c.y, false⟩ && acc ⟨c.x, c.y, false⟩) := by rw [← hF]
        have hok : (Hd.mk c.x c.y false).ok := by unfold Hd.ok; simp only; omega
        cases hh : isH p ⟨c.x, c.y, false⟩
        case' true => cases ha : acc ⟨c.x, c.y, false⟩
        all_goals
          simp only [hh, Bool.false_and, Bool.true_and] at hFv
          try rw [ha] at hFv
          first
            | have hb1 := sdB_1y hFv
            | have hb1 := sdB_1n hFv
          repeat' (first
            | (refine s_g ?_; first
      | (refine s_gd rfl ?_; first | refine s_gd1 rfl rfl zTr ?_ | refine s_gd0 rfl rfl rfl zTr ?_ | refine s_gd00 rfl rfl zTr ?_ | refine s_gdu rfl rfl rfl ?_ | refine s_gp1 rfl rfl rfl (fun hc => ?_) (fun hc => ?_) | refine s_gp0 rfl rfl rfl (fun hc => ?_) (fun hc => ?_) | refine s_gnp1 rfl rfl rfl (fun hc => ?_) (fun hc => ?_) | refine s_gnp0 rfl rfl rfl (fun hc => ?_) (fun hc => ?_) | refine s_gb1 rfl rfl rfl (fun hc => ?_) (fun hc => ?_) | refine s_gb0 rfl rfl rfl (fun hc => ?_) (fun hc => ?_) | refine s_gnb1 rfl rfl rfl (fun hc => ?_) (fun hc => ?_) | refine s_gnb0 rfl rfl rfl (fun hc => ?_) (fun hc => ?_))
      | (refine s_k 0 rfl ?_; refine s_val rfl rfl rfl (r_move rfl rfl) ?_)
      | (refine s_k 8 rfl ?_; first | refine s_val rfl rfl rfl (r_ld1 tb rfl rfl m0 rfl hl2) ?_ | (refine' s_val rfl rfl rfl (r_ldv rfl rfl ?qm ?qv) ?_; (case qm => (exact zMm)); (case qv => (exact zLe))) | (refine' s_val rfl rfl rfl (r_ldo rfl rfl ?qw (by simp) ?qv) ?_; (case qw => assumption); (case qv => (exact zLe))))
      | (refine s_k 1 rfl ?_; refine s_val rfl rfl rfl (r_assign rfl rfl) ?_)
      | (refine s_k 13 rfl ?_; first | refine s_val rfl rfl rfl (r_lss rfl rfl rfl) ?_ | refine s_val rfl rfl rfl (r_add rfl rfl rfl (wrap_in (by simp only [lo, hi]; omega))) ?_)
      | (refine s_k 35 rfl ?_; first | (refine s_call Try.func145 (by kernel_rfl) rfl rfl rfl rfl rfl rfl (fun w hL => (by have q := isHurdle_any p cs c.x c.y false w hp hok; rw [hh] at q; exact q)) ?_) | refine s_callb hf hname hb rfl rfl rfl rfl rfl rfl (fun w hL => by have q := hc ⟨c.x, c.y, false⟩ hh w hL.toBelow; rw [ha] at q; exact q) ?_)
      | (refine s_k 2 rfl ?_; first | refine s_val rfl rfl rfl (r_pick1 rfl rfl zTr rfl) ?_ | refine s_val rfl rfl rfl (r_pick0 rfl rfl zTr rfl) ?_)
      | (refine s_k 25 rfl ?_; first | refine s_val rfl rfl rfl (r_ixO tb rfl rfl rfl rfl hlt2) ?_ | refine s_val rfl rfl rfl (r_ixN tb rfl rfl rfl rfl (by omega)) ?_ | refine s_val rfl rfl rfl (r_ixA tb rfl rfl rfl rfl (by omega) (by omega)) ?_ | refine s_val rfl rfl rfl (r_ixO tb rfl rfl rfl rfl (by omega)) ?_)
      | (refine s_k 4 rfl ?_; first | refine s_boxA rfl rfl rfl rfl rfl fun blk => ?_ | refine s_box1 rfl rfl rfl rfl rfl rfl fun blk => ?_)
      | (refine s_k 9 rfl ?_; (first | refine s_st1 tb rfl rfl rfl rfl rfl rfl rfl rfl ?_ | refine s_stA tb rfl rfl rfl rfl (by first | rfl | assumption | (apply Pv.size; assumption)) rfl rfl ?_); (first | refine' st0 ?qs ?_ | refine' st1 ?qs ?_ | refine' st2 ?qs ?_ | refine' st3 ?qs ?_ | refine' st4 ?qs ?_ | refine' st5 ?qs ?_ | refine' st6 ?qs ?_ | refine' st7 ?qs ?_ | refine' st8 ?qs ?_ | refine' st9 ?qs ?_ | refine' st10 ?qs ?_ | refine' st11 ?qs ?_); (case qs => (first | exact zSet)))
      | (refine s_k 3 rfl ?_; refine s_allocA (t := 139) rfl zImplHurdle rfl rfl rfl fun blk => ?_)
      | (refine s_k 36 rfl ?_; first | refine s_app4 hA rfl rfl rfl uHurdleS iHurdle rfl (by omega) (by simp) (by simp) rfl (by simp [Value.oneCell']) (by unfold maxLen; omega) (by omega) rfl rfl rfl fun g cap cur hA => ?_ | refine s_val rfl rfl rfl (r_len tb rfl rfl rfl) ?_)
      | (refine s_k 5 rfl ?_; refine s_val rfl rfl rfl (r_build rfl rfl (fun w => bHurdle _ _ _ rfl w)) ?_)
      | (refine s_k 6 rfl ?_; refine s_bsl rfl rfl (fun w => slHurdle1 _ _ _ w) rfl rfl rfl fun blk => ?_)
      | refine s_nil ?_)
            | (refine c_g ?_; first | refine c_seq ?_ | refine c_region ?_ | (refine c_gc ?_; first | refine c_cond1 rfl zTr ?_ | refine c_cond0 rfl zTr ?_ | refine z_condd1 rfl ?_ | refine z_condd0 rfl ?_ | refine z_conddn1 rfl ?_ | refine z_conddn0 rfl ?_ | refine c_condd rfl (fun hc => ?_) (fun hc => ?_) | refine c_conddn rfl (fun hc => ?_) (fun hc => ?_) | refine c_condn rfl (fun hc => ?_) (fun hc => ?_) | refine c_cond rfl (fun hc => ?_) (fun hc => ?_)) | refine c_block ?_ | refine c_skip ?_ | refine c_exit ?_ | refine c_ret ?_)
            | (refine e_g ?_; first | refine e_then ?_ | refine e_blkn ?_ | refine e_thenx ?_ | refine e_thenr ?_ | refine e_blkr ?_ | refine e_blkx ?_ | refine e_blky rfl ?_)
            | refine e_drop0 (e_round (1, g, cap, cur) (by simp) ⟨by simp, ?_⟩ ?hs rfl))
          all_goals first
            | (case hs => rw [hb1]; (repeat' (first | exact sub_nil | refine sub_cons rfl ?_ | refine sub_cons' rfl (by simp [Nat.add_assoc]) ?_)); done)
            | (rw [hb1]; first | exact hA | (rw [← List.append_assoc, flH_snoc]; simpa [Hd.cells, Nat.add_assoc] using hA))
      · have hl2 : (#[.bool false, .bool true] : Array Value)[0 + 1 * 1 + 0]? = some (.bool true) := rfl
        have hFv : F ⟨c.x, c.y, true⟩ = (isH p ⟨c.x, c.y, true⟩ && acc ⟨c.x, c.y, true⟩) := by rw [← hF]
        have hok : (Hd.mk c.x c.y true).ok := by unfold Hd.ok; simp only; omega
        cases hh : isH p ⟨c.x, c.y, true⟩
        case' true => cases ha : acc ⟨c.x, c.y, true⟩
        all_goals
          simp only [hh, Bool.false_and, Bool.true_and] at hFv
          try rw [ha] at hFv
          first
            | have hb1 := sdB_2y hFv
            | have hb1 := sdB_2n hFv
          repeat' (first
            | (refine s_g ?_; first
      | (refine s_gd rfl ?_; first | refine s_gd1 rfl rfl zTr ?_ | refine s_gd0 rfl rfl rfl zTr ?_ | refine s_gd00 rfl rfl zTr ?_ | refine s_gdu rfl rfl rfl ?_ | refine s_gp1 rfl rfl rfl (fun hc => ?_) (fun hc => ?_) | refine s_gp0 rfl rfl rfl (fun hc => ?_) (fun hc => ?_) | refine s_gnp1 rfl rfl rfl (fun hc => ?_) (fun hc => ?_) | refine s_gnp0 rfl rfl rfl (fun hc => ?_) (fun hc => ?_) | refine s_gb1 rfl rfl rfl (fun hc => ?_) (fun hc => ?_) | refine s_gb0 rfl rfl rfl (fun hc => ?_) (fun hc => ?_) | refine s_gnb1 rfl rfl rfl (fun hc => ?_) (fun hc => ?_) | refine s_gnb0 rfl rfl rfl (fun hc => ?_) (fun hc => ?_))
      | (refine s_k 0 rfl ?_; refine s_val rfl rfl rfl (r_move rfl rfl) ?_)
      | (refine s_k 8 rfl ?_; first | refine s_val rfl rfl rfl (r_ld1 tb rfl rfl m0 rfl hl2) ?_ | (refine' s_val rfl rfl rfl (r_ldv rfl rfl ?qm ?qv) ?_; (case qm => (exact zMm)); (case qv => (exact zLe))) | (refine' s_val rfl rfl rfl (r_ldo rfl rfl ?qw (by simp) ?qv) ?_; (case qw => assumption); (case qv => (exact zLe))))
      | (refine s_k 1 rfl ?_; refine s_val rfl rfl rfl (r_assign rfl rfl) ?_)
      | (refine s_k 13 rfl ?_; first | refine s_val rfl rfl rfl (r_lss rfl rfl rfl) ?_ | refine s_val rfl rfl rfl (r_add rfl rfl rfl (wrap_in (by simp only [lo, hi]; omega))) ?_)
      | (refine s_k 35 rfl ?_; first | (refine s_call Try.func145 (by kernel_rfl) rfl rfl rfl rfl rfl rfl (fun w hL => (by have q := isHurdle_any p cs c.x c.y true w hp hok; rw [hh] at q; exact q)) ?_) | refine s_callb hf hname hb rfl rfl rfl rfl rfl rfl (fun w hL => by have q := hc ⟨c.x, c.y, true⟩ hh w hL.toBelow; rw [ha] at q; exact q) ?_)
      | (refine s_k 2 rfl ?_; first | refine s_val rfl rfl rfl (r_pick1 rfl rfl zTr rfl) ?_ | refine s_val rfl rfl rfl (r_pick0 rfl rfl zTr rfl) ?_)
      | (refine s_k 25 rfl ?_; first | refine s_val rfl rfl rfl (r_ixO tb rfl rfl rfl rfl hlt2) ?_ | refine s_val rfl rfl rfl (r_ixN tb rfl rfl rfl rfl (by omega)) ?_ | refine s_val rfl rfl rfl (r_ixA tb rfl rfl rfl rfl (by omega) (by omega)) ?_ | refine s_val rfl rfl rfl (r_ixO tb rfl rfl rfl rfl (by omega)) ?_)
      | (refine s_k 4 rfl ?_; first | refine s_boxA rfl rfl rfl rfl rfl fun blk => ?_ | refine s_box1 rfl rfl rfl rfl rfl rfl fun blk => ?_)
      | (refine s_k 9 rfl ?_; (first | refine s_st1 tb rfl rfl rfl rfl rfl rfl rfl rfl ?_ | refine s_stA tb rfl rfl rfl rfl (by first | rfl | assumption | (apply Pv.size; assumption)) rfl rfl ?_); (first | refine' st0 ?qs ?_ | refine' st1 ?qs ?_ | refine' st2 ?qs ?_ | refine' st3 ?qs ?_ | refine' st4 ?qs ?_ | refine' st5 ?qs ?_ | refine' st6 ?qs ?_ | refine' st7 ?qs ?_ | refine' st8 ?qs ?_ | refine' st9 ?qs ?_ | refine' st10 ?qs ?_ | refine' st11 ?qs ?_); (case qs => (first | exact zSet)))
      | (refine s_k 3 rfl ?_; refine s_allocA (t := 139) rfl zImplHurdle rfl rfl rfl fun blk => ?_)
      | (refine s_k 36 rfl ?_; first | refine s_app4 hA rfl rfl rfl uHurdleS iHurdle rfl (by omega) (by simp) (by simp) rfl (by simp [Value.oneCell']) (by unfold maxLen; omega) (by omega) rfl rfl rfl fun g cap cur hA => ?_ | refine s_val rfl rfl rfl (r_len tb rfl rfl rfl) ?_)
      | (refine s_k 5 rfl ?_; refine s_val rfl rfl rfl (r_build rfl rfl (fun w => bHurdle _ _ _ rfl w)) ?_)
      | (refine s_k 6 rfl ?_; refine s_bsl rfl rfl (fun w => slHurdle1 _ _ _ w) rfl rfl rfl fun blk => ?_)
      | refine s_nil ?_)
            | (refine c_g ?_; first | refine c_seq ?_ | refine c_region ?_ | (refine c_gc ?_; first | refine c_cond1 rfl zTr ?_ | refine c_cond0 rfl zTr ?_ | refine z_condd1 rfl ?_ | refine z_condd0 rfl ?_ | refine z_conddn1 rfl ?_ | refine z_conddn0 rfl ?_ | refine c_condd rfl (fun hc => ?_) (fun hc => ?_) | refine c_conddn rfl (fun hc => ?_) (fun hc => ?_) | refine c_condn rfl (fun hc => ?_) (fun hc => ?_) | refine c_cond rfl (fun hc => ?_) (fun hc => ?_)) | refine c_block ?_ | refine c_skip ?_ | refine c_exit ?_ | refine c_ret ?_)
            | (refine e_g ?_; first | refine e_then ?_ | refine e_blkn ?_ | refine e_thenx ?_ | refine e_thenr ?_ | refine e_blkr ?_ | refine e_blkx ?_ | refine e_blky rfl ?_)
            | refine e_drop0 (e_round (2, g, cap, cur) (by simp) ⟨by simp, ?_⟩ ?hs rfl))
          all_goals first
            | (case hs => rw [hb1]; (repeat' (first | exact sub_nil | refine sub_cons rfl ?_ | refine sub_cons' rfl (by simp [Nat.add_assoc]) ?_)); done)
            | (rw [hb1]; first | exact hA | (rw [← List.append_assoc, flH_snoc]; simpa [Hd.cells, Nat.add_assoc] using hA))
    · obtain rfl : j = 2 := by omega
      rw [← hsn] at hA ⊢
      repeat' (first
        | (refine s_g ?_; first
      | (refine s_gd rfl ?_; first | refine s_gd1 rfl rfl zTr ?_ | refine s_gd0 rfl rfl rfl zTr ?_ | refine s_gd00 rfl rfl zTr ?_ | refine s_gp1 rfl rfl rfl (fun hc => ?_) (fun hc => ?_) | refine s_gp0 rfl rfl rfl (fun hc => ?_) (fun hc => ?_) | refine s_gnp1 rfl rfl rfl (fun hc => ?_) (fun hc => ?_) | refine s_gnp0 rfl rfl rfl (fun hc => ?_) (fun hc => ?_) | refine s_gb1 rfl rfl rfl (fun hc => ?_) (fun hc => ?_) | refine s_gb0 rfl rfl rfl (fun hc => ?_) (fun hc => ?_) | refine s_gnb1 rfl rfl rfl (fun hc => ?_) (fun hc => ?_) | refine s_gnb0 rfl rfl rfl (fun hc => ?_) (fun hc => ?_))
      | (refine s_k 0 rfl ?_; refine s_val rfl rfl rfl (r_move rfl rfl) ?_)
      | (refine s_k 8 rfl ?_; first | (refine' s_val rfl rfl rfl (r_ldv rfl rfl ?qm ?qv) ?_; (case qm => (exact zMm)); (case qv => (exact zLe))) | (refine' s_val rfl rfl rfl (r_ldo rfl rfl ?qw (by simp) ?qv) ?_; (case qw => assumption); (case qv => (exact zLe))))
      | (refine s_k 1 rfl ?_; refine s_val rfl rfl rfl (r_assign rfl rfl) ?_)
      | (refine s_k 13 rfl ?_; first | refine s_val rfl rfl rfl (r_lss rfl rfl rfl) ?_ | refine s_val rfl rfl rfl (r_add rfl rfl rfl (wrap_in (by simp only [lo, hi]; omega))) ?_)
      | (refine s_k 2 rfl ?_; first | refine s_val rfl rfl rfl (r_pick1 rfl rfl zTr rfl) ?_ | refine s_val rfl rfl rfl (r_pick0 rfl rfl zTr rfl) ?_)
      | (refine s_k 25 rfl ?_; first | refine s_val rfl rfl rfl (r_ixN tb rfl rfl rfl rfl (by omega)) ?_ | refine s_val rfl rfl rfl (r_ixA tb rfl rfl rfl rfl (by omega) (by omega)) ?_ | refine s_val rfl rfl rfl (r_ixO tb rfl rfl rfl rfl (by omega)) ?_)
      | (refine s_k 4 rfl ?_; first | refine s_boxA rfl rfl rfl rfl rfl fun blk => ?_ | refine s_box1 rfl rfl rfl rfl rfl rfl fun blk => ?_)
      | (refine s_k 9 rfl ?_; (first | refine s_st1 tb rfl rfl rfl rfl rfl rfl rfl rfl ?_ | refine s_stA tb rfl rfl rfl rfl (by first | rfl | assumption | (apply Pv.size; assumption)) rfl rfl ?_); (first | refine' st0 ?qs ?_ | refine' st1 ?qs ?_ | refine' st2 ?qs ?_ | refine' st3 ?qs ?_ | refine' st4 ?qs ?_ | refine' st5 ?qs ?_ | refine' st6 ?qs ?_ | refine' st7 ?qs ?_ | refine' st8 ?qs ?_ | refine' st9 ?qs ?_ | refine' st10 ?qs ?_ | refine' st11 ?qs ?_); (case qs => (first | exact zSet)))
      | (refine s_k 36 rfl ?_; refine s_val rfl rfl rfl (r_len tb rfl rfl rfl) ?_)
      | refine s_nil ?_)
        | (refine c_g ?_; first | refine c_seq ?_ | refine c_region ?_ | (refine c_gc ?_; first | refine c_cond1 rfl zTr ?_ | refine c_cond0 rfl zTr ?_ | refine z_condd1 rfl ?_ | refine z_condd0 rfl ?_ | refine z_conddn1 rfl ?_ | refine z_conddn0 rfl ?_ | refine c_condd rfl (fun hc => ?_) (fun hc => ?_) | refine c_conddn rfl (fun hc => ?_) (fun hc => ?_) | refine c_condn rfl (fun hc => ?_) (fun hc => ?_) | refine c_cond rfl (fun hc => ?_) (fun hc => ?_)) | refine c_block ?_ | refine c_skip ?_ | refine c_exit ?_ | refine c_ret ?_)
        | (refine e_g ?_; first | refine e_then ?_ | refine e_blkn ?_ | refine e_thenx ?_ | refine e_thenr ?_ | refine e_blkr ?_ | refine e_blkx ?_ | refine e_blky rfl ?_)
        | refine e_drop0 (e_drop0 (e_round (k + 1, g, cap, cur) (by simp; omega) ⟨by simp; omega, hA⟩ ?_ rfl)))
      all_goals (repeat' (first | exact sub_nil | refine sub_cons rfl ?_))
  · have hkH : k = H * W := by omega
    subst hkH
    repeat' (first
      | (refine s_g ?_; first
      | (refine s_gd rfl ?_; first | refine s_gd1 rfl rfl zTr ?_ | refine s_gd0 rfl rfl rfl zTr ?_ | refine s_gd00 rfl rfl zTr ?_ | refine s_gp1 rfl rfl rfl (fun hc => ?_) (fun hc => ?_) | refine s_gp0 rfl rfl rfl (fun hc => ?_) (fun hc => ?_) | refine s_gnp1 rfl rfl rfl (fun hc => ?_) (fun hc => ?_) | refine s_gnp0 rfl rfl rfl (fun hc => ?_) (fun hc => ?_) | refine s_gb1 rfl rfl rfl (fun hc => ?_) (fun hc => ?_) | refine s_gb0 rfl rfl rfl (fun hc => ?_) (fun hc => ?_) | refine s_gnb1 rfl rfl rfl (fun hc => ?_) (fun hc => ?_) | refine s_gnb0 rfl rfl rfl (fun hc => ?_) (fun hc => ?_))
      | (refine s_k 0 rfl ?_; refine s_val rfl rfl rfl (r_move rfl rfl) ?_)
      | (refine s_k 8 rfl ?_; first | (refine' s_val rfl rfl rfl (r_ldv rfl rfl ?qm ?qv) ?_; (case qm => (exact zMm)); (case qv => (exact zLe))) | (refine' s_val rfl rfl rfl (r_ldo rfl rfl ?qw (by simp) ?qv) ?_; (case qw => assumption); (case qv => (exact zLe))))
      | (refine s_k 1 rfl ?_; refine s_val rfl rfl rfl (r_assign rfl rfl) ?_)
      | (refine s_k 13 rfl ?_; first | refine s_val rfl rfl rfl (r_lss rfl rfl rfl) ?_ | refine s_val rfl rfl rfl (r_add rfl rfl rfl (wrap_in (by simp only [lo, hi]; omega))) ?_)
      | (refine s_k 2 rfl ?_; first | refine s_val rfl rfl rfl (r_pick1 rfl rfl zTr rfl) ?_ | refine s_val rfl rfl rfl (r_pick0 rfl rfl zTr rfl) ?_)
      | (refine s_k 25 rfl ?_; first | refine s_val rfl rfl rfl (r_ixN tb rfl rfl rfl rfl (by omega)) ?_ | refine s_val rfl rfl rfl (r_ixA tb rfl rfl rfl rfl (by omega) (by omega)) ?_ | refine s_val rfl rfl rfl (r_ixO tb rfl rfl rfl rfl (by omega)) ?_)
      | (refine s_k 4 rfl ?_; first | refine s_boxA rfl rfl rfl rfl rfl fun blk => ?_ | refine s_box1 rfl rfl rfl rfl rfl rfl fun blk => ?_)
      | (refine s_k 9 rfl ?_; (first | refine s_st1 tb rfl rfl rfl rfl rfl rfl rfl rfl ?_ | refine s_stA tb rfl rfl rfl rfl (by first | rfl | assumption | (apply Pv.size; assumption)) rfl rfl ?_); (first | refine' st0 ?qs ?_ | refine' st1 ?qs ?_ | refine' st2 ?qs ?_ | refine' st3 ?qs ?_ | refine' st4 ?qs ?_ | refine' st5 ?qs ?_ | refine' st6 ?qs ?_ | refine' st7 ?qs ?_ | refine' st8 ?qs ?_ | refine' st9 ?qs ?_ | refine' st10 ?qs ?_ | refine' st11 ?qs ?_); (case qs => (first | exact zSet)))
      | (refine s_k 36 rfl ?_; refine s_val rfl rfl rfl (r_len tb rfl rfl rfl) ?_)
      | refine s_nil ?_)
      | (refine c_g ?_; first | refine c_seq ?_ | refine c_region ?_ | (refine c_gc ?_; first | refine c_cond1 rfl zTr ?_ | refine c_cond0 rfl zTr ?_ | refine z_condd1 rfl ?_ | refine z_condd0 rfl ?_ | refine z_conddn1 rfl ?_ | refine z_conddn0 rfl ?_ | refine c_condd rfl (fun hc => ?_) (fun hc => ?_) | refine c_conddn rfl (fun hc => ?_) (fun hc => ?_) | refine c_condn rfl (fun hc => ?_) (fun hc => ?_) | refine c_cond rfl (fun hc => ?_) (fun hc => ?_)) | refine c_block ?_ | refine c_skip ?_ | refine c_exit ?_ | refine c_ret ?_)
      | (refine e_g ?_; first | refine e_then ?_ | refine e_blkn ?_ | refine e_thenx ?_ | refine e_thenr ?_ | refine e_blkr ?_ | refine e_blkx ?_ | refine e_blky rfl ?_)
      | (refine e_ret1 (by simp) rfl (re_tmp rfl) fun w hL => NewS.of hA hL m1))
end Go.Proofs.Ytnfdefeafhepkaa
