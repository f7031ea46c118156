import Derived.Test.YtpifngdmlmfnhaaQA13
import Derived.Test.YtpifngdmlmfnhaaQA27
import Derived.Test.YtpifngdmlmfnhaaQA29
/- How often a cell stands in a list, and what a function says of that: the program's closure. No condition. -/
namespace Go.Proofs.Ytpifngdmlmfnhaa
set_option linter.unusedVariables false
set_option linter.unusedSimpArgs false
open Go.RowKit Mem Wk
attribute [local irreducible] Calls Wk.S Wk.C Wk.E Wk.X Wk.T Wk.Y Wk.andV Wk.shrV Calm.wpLex CalmB.wpLex bfsN
theorem r_eqSpV {n : Nat} {O : List Nat} {w0 : World} {l : List (Nat × Value)} {L : List (Nat × TypeId × Array Value)} {o : Oper} {x y : Operand} {t' : Nat} {a b c d : Int} {v : Bool} (ho : o.op = .binOp .eql 88 x y t') (hx : ev l x = some (.agg #[.int .i8 a, .int .i8 b])) (hy : ev l y = some (.agg #[.int .i8 c, .int .i8 d])) (hv : (decide (a = c) && decide (b = d)) = v) : Rn Try.prog n O w0 l L o (.bool v) := by
  subst hv; exact r_eqSpot ho hx hy
def cntS (C : List Sp) (c : Sp) : Nat := (C.filter fun e => eqSp e c).length
theorem cntS_snoc {C : List Sp} {k : Nat} {e : Sp} (h : C[k]? = some e) (c : Sp) : cntS (C.take (k + 1)) c = cntS (C.take k) c + if eqSp e c then 1 else 0 := by
  unfold cntS
  rw [List.take_add_one, h, List.filter_append]
  cases hb : eqSp e c <;> simp [hb]
theorem cntS_le (C : List Sp) (c : Sp) : cntS C c ≤ C.length := List.length_filter_le _ _
set_option maxRecDepth 100000 in
set_option maxHeartbeats 800000 in
theorem rbClo_any (C : List Sp) (c : Sp) (acc : Int → Bool) (cf : FuncId) (fn : Func) (g1 g2 g cap : Nat) (cur : Array Value) (T1 T2 T : TypeId) (w : World) (hA : Ap 2 C.length cap cur (flS C)) (hn : C.length ≤ 1048576)
    (hg1 : w.heap[g1]? = some (.cells #[.slice (some ⟨g, 0, none⟩) C.length cap] T1 (0, 0))) (hg : w.heap[g]? = some (.cells cur T (0, 0))) (hg2 : w.heap[g2]? = some (.cells #[.func (.func cf) #[] #[]] T2 (0, 0)))
    (hf : Try.prog.funcs[cf]? = some fn) (hname : (fn.name == "runtime.NumGoroutine") = false) (hb : fn.body.isSome = true) (hacc : ∀ (m : Nat) w', Calls Try.prog cf #[.int .i64 (m : Int)] w' fun e w'' => e = .returned (.bool (acc m)) ∧ Below w'.heap.size w' w'') :
    Calls Try.prog 195 #[.agg #[.int .i8 c.x, .int .i8 c.y], .pointer (some ⟨g1, 0, none⟩), .pointer (some ⟨g2, 0, none⟩)] w fun e w' => e = .returned (.bool (acc (cntS C c))) ∧ Below w.heap.size w w' := by
  refine enter3 Try.func195 rfl rfl rfl (Own.start w) ?_
  repeat' (first
    | (refine s_g ?_; first
      | (refine s_k 0 rfl ?_; refine s_val rfl rfl rfl (r_move rfl rfl) ?_)
      | (refine s_k 8 rfl ?_; first | refine s_val rfl rfl rfl (r_ldo rfl rfl hg1 (by simp) (ldv1 tb rfl rfl)) ?_ | (refine' s_val rfl rfl rfl (r_ldv rfl rfl ?qm ?qv) ?_; (case qm => (exact zMm)); (case qv => (exact zLe))) | (refine' s_val rfl rfl rfl (r_ldo rfl rfl ?qw (by simp) ?qv) ?_; (case qw => assumption); (case qv => (exact zLe))))
      | (refine s_k 1 rfl ?_; refine s_val rfl rfl rfl (r_assign rfl rfl) ?_)
      | (refine s_k 13 rfl ?_; first | refine s_val rfl rfl rfl (r_lss rfl rfl rfl) ?_ | refine s_val rfl rfl rfl (r_eql rfl rfl rfl) ?_ | refine s_val rfl rfl rfl (r_add rfl rfl rfl (wrap_in (by simp only [lo, hi]; omega))) ?_)
      | (refine s_k 25 rfl ?_; first | refine s_val rfl rfl rfl (r_ixN tb rfl rfl rfl rfl (by omega)) ?_ | refine s_val rfl rfl rfl (r_ixA tb rfl rfl rfl rfl (by omega) (by omega)) ?_ | refine s_val rfl rfl rfl (r_ixO tb rfl rfl rfl rfl (by omega)) ?_)
      | (refine s_k 4 rfl ?_; first | refine s_boxA rfl rfl rfl rfl rfl fun blk => ?_ | refine s_box1 rfl rfl rfl rfl rfl rfl fun blk => ?_)
      | (refine s_k 9 rfl ?_; (first | refine s_st1 tb rfl rfl rfl rfl rfl rfl rfl rfl ?_ | refine s_stA tb rfl rfl rfl rfl (by first | rfl | assumption | (apply Pv.size; assumption)) rfl rfl ?_); (first | refine' st0 ?qs ?_ | refine' st1 ?qs ?_ | refine' st2 ?qs ?_ | refine' st3 ?qs ?_ | refine' st4 ?qs ?_ | refine' st5 ?qs ?_ | refine' st6 ?qs ?_ | refine' st7 ?qs ?_ | refine' st8 ?qs ?_ | refine' st9 ?qs ?_ | refine' st10 ?qs ?_ | refine' st11 ?qs ?_); (case qs => (first | exact zSet)))
      | (refine s_k 36 rfl ?_; refine s_val rfl rfl rfl (r_len tb rfl rfl rfl) ?_)
      | refine s_nil ?_)
    | (refine c_g ?_; first | refine c_seq ?_ | refine c_region ?_ | (refine c_gc ?_; first | refine c_cond1 rfl zTr ?_ | refine c_cond0 rfl zTr ?_ | refine z_condd1 rfl ?_ | refine z_condd0 rfl ?_ | refine z_conddn1 rfl ?_ | refine z_conddn0 rfl ?_ | refine c_condd rfl (fun hc => ?_) (fun hc => ?_) | refine c_conddn rfl (fun hc => ?_) (fun hc => ?_) | refine c_condn rfl (fun hc => ?_) (fun hc => ?_) | refine c_cond rfl (fun hc => ?_) (fun hc => ?_)) | refine c_block ?_ | refine c_skip ?_ | refine c_exit ?_ | refine c_ret ?_)
    | (refine e_g ?_; first | refine e_then ?_ | refine e_blkn ?_ | refine e_thenx ?_ | refine e_thenr ?_ | refine e_blkr ?_ | refine e_blkx ?_ | refine e_blky rfl ?_))
  refine c_loop (ι := Nat) (fun i => C.length - i) (fun i => i ≤ C.length) (fun i => [(10, .int .i64 (i : Int)), (9, .int .i64 (C.length : Int)), (8, .slice (some ⟨g, 0, none⟩) C.length cap), (5, .int .i64 ((cntS (C.take i) c : Nat) : Int)), (3, .pointer (some ⟨blk, 0, none⟩)), (2, .pointer (some ⟨g2, 0, none⟩))]) (fun i => [(blk, 88, #[.int .i8 c.x, .int .i8 c.y])]) 0 (by simp) ?hs rfl ?_
  case hs => (repeat' (first | exact sub_nil | refine sub_cons rfl ?_))
  rintro k hk
  have hcl : cntS (C.take k) c ≤ 1048576 := Nat.le_trans (cntS_le _ _) (by simp; omega)
  by_cases hlt : k < C.length
  · have hx : C[k]? = some C[k] := List.getElem?_eq_getElem hlt
    have hsn := cntS_snoc hx c
    generalize C[k] = e at *
    have hsp := hA.spot hx
    have hev0 : (decide (e.x = c.x) && decide (e.y = c.y)) = eqSp e c := rfl
    generalize eqSp e c = ev0 at *
    have hev := hev0
    cases ev0
    all_goals
      simp only [if_true, if_false, Bool.false_eq_true, Nat.add_zero] at hsn
      repeat' (first
        | (refine s_g ?_; first
      | (refine s_k 0 rfl ?_; refine s_val rfl rfl rfl (r_move rfl rfl) ?_)
      | (refine s_k 8 rfl ?_; first | refine s_val rfl rfl rfl (r_ldo rfl rfl hg (by simp) (ldvM tb rfl hsp.1 hsp.2)) ?_ | (refine' s_val rfl rfl rfl (r_ldv rfl rfl ?qm ?qv) ?_; (case qm => (exact zMm)); (case qv => (exact zLe))) | (refine' s_val rfl rfl rfl (r_ldo rfl rfl ?qw (by simp) ?qv) ?_; (case qw => assumption); (case qv => (exact zLe))))
      | (refine s_k 1 rfl ?_; refine s_val rfl rfl rfl (r_assign rfl rfl) ?_)
      | (refine s_k 13 rfl ?_; first | refine s_val rfl rfl rfl (r_eqSpV rfl rfl rfl hev) ?_ | refine s_val rfl rfl rfl (r_lss rfl rfl rfl) ?_ | refine s_val rfl rfl rfl (r_eql rfl rfl rfl) ?_ | refine s_val rfl rfl rfl (r_add rfl rfl rfl (wrap_in (by simp only [lo, hi]; omega))) ?_)
      | (refine s_k 25 rfl ?_; first | refine s_val rfl rfl rfl (r_ixO tb rfl rfl rfl rfl hlt) ?_ | refine s_val rfl rfl rfl (r_ixN tb rfl rfl rfl rfl (by omega)) ?_ | refine s_val rfl rfl rfl (r_ixA tb rfl rfl rfl rfl (by omega) (by omega)) ?_ | refine s_val rfl rfl rfl (r_ixO tb rfl rfl rfl rfl (by omega)) ?_)
      | (refine s_k 4 rfl ?_; first | refine s_boxA rfl rfl rfl rfl rfl fun blk => ?_ | refine s_box1 rfl rfl rfl rfl rfl rfl fun blk => ?_)
      | (refine s_k 9 rfl ?_; (first | refine s_st1 tb rfl rfl rfl rfl rfl rfl rfl rfl ?_ | refine s_stA tb rfl rfl rfl rfl (by first | rfl | assumption | (apply Pv.size; assumption)) rfl rfl ?_); (first | refine' st0 ?qs ?_ | refine' st1 ?qs ?_ | refine' st2 ?qs ?_ | refine' st3 ?qs ?_ | refine' st4 ?qs ?_ | refine' st5 ?qs ?_ | refine' st6 ?qs ?_ | refine' st7 ?qs ?_ | refine' st8 ?qs ?_ | refine' st9 ?qs ?_ | refine' st10 ?qs ?_ | refine' st11 ?qs ?_); (case qs => (first | exact set_whole (vs := e.cells.toArray) rfl (by simp [Sp.cells, Value.oneCell']) | exact zSet)))
      | (refine s_k 3 rfl ?_; refine s_allocA (t := 88) rfl zImplSpot rfl rfl rfl fun blk => ?_)
      | (refine s_k 36 rfl ?_; refine s_val rfl rfl rfl (r_len tb rfl rfl rfl) ?_)
      | refine s_nil ?_)
        | (refine c_g ?_; first | refine c_seq ?_ | refine c_region ?_ | (refine c_gc ?_; first | refine c_cond1 rfl zTr ?_ | refine c_cond0 rfl zTr ?_ | refine z_condd1 rfl ?_ | refine z_condd0 rfl ?_ | refine z_conddn1 rfl ?_ | refine z_conddn0 rfl ?_ | refine c_condd rfl (fun hc => ?_) (fun hc => ?_) | refine c_conddn rfl (fun hc => ?_) (fun hc => ?_) | refine c_condn rfl (fun hc => ?_) (fun hc => ?_) | refine c_cond rfl (fun hc => ?_) (fun hc => ?_)) | refine c_block ?_ | refine c_skip ?_ | refine c_exit ?_ | refine c_ret ?_)
        | (refine e_g ?_; first | refine e_then ?_ | refine e_blkn ?_ | refine e_thenx ?_ | refine e_thenr ?_ | refine e_blkr ?_ | refine e_blkx ?_ | refine e_blky rfl ?_)
        | (refine e_drop0 (e_round (k + 1) (by omega) (by omega) ?_ rfl)))
      all_goals (try rw [hsn])
      all_goals (repeat' (first | exact sub_nil | refine sub_cons rfl ?_))
  · have hkl : k = C.length := by omega
    subst hkl
    rw [List.take_length]
    repeat' (first
      | (refine s_g ?_; first
      | (refine s_k 0 rfl ?_; refine s_val rfl rfl rfl (r_move rfl rfl) ?_)
      | (refine s_k 8 rfl ?_; first | refine s_val rfl rfl rfl (r_ldo rfl rfl hg2 (by simp) (ldv1 tb rfl rfl)) ?_ | (refine' s_val rfl rfl rfl (r_ldv rfl rfl ?qm ?qv) ?_; (case qm => (exact zMm)); (case qv => (exact zLe))) | (refine' s_val rfl rfl rfl (r_ldo rfl rfl ?qw (by simp) ?qv) ?_; (case qw => assumption); (case qv => (exact zLe))))
      | (refine s_k 1 rfl ?_; refine s_val rfl rfl rfl (r_assign rfl rfl) ?_)
      | (refine s_k 13 rfl ?_; first | refine s_val rfl rfl rfl (r_lss rfl rfl rfl) ?_ | refine s_val rfl rfl rfl (r_eql rfl rfl rfl) ?_ | refine s_val rfl rfl rfl (r_add rfl rfl rfl (wrap_in (by simp only [lo, hi]; omega))) ?_)
      | (refine s_k 35 rfl ?_; refine s_callc (caps := []) hf hname hb rfl rfl rfl rfl rfl rfl (fun w hL => hacc _ w) ?_)
      | (refine s_k 25 rfl ?_; first | refine s_val rfl rfl rfl (r_ixN tb rfl rfl rfl rfl (by omega)) ?_ | refine s_val rfl rfl rfl (r_ixA tb rfl rfl rfl rfl (by omega) (by omega)) ?_ | refine s_val rfl rfl rfl (r_ixO tb rfl rfl rfl rfl (by omega)) ?_)
      | (refine s_k 4 rfl ?_; first | refine s_boxA rfl rfl rfl rfl rfl fun blk => ?_ | refine s_box1 rfl rfl rfl rfl rfl rfl fun blk => ?_)
      | (refine s_k 9 rfl ?_; (first | refine s_st1 tb rfl rfl rfl rfl rfl rfl rfl rfl ?_ | refine s_stA tb rfl rfl rfl rfl (by first | rfl | assumption | (apply Pv.size; assumption)) rfl rfl ?_); (first | refine' st0 ?qs ?_ | refine' st1 ?qs ?_ | refine' st2 ?qs ?_ | refine' st3 ?qs ?_ | refine' st4 ?qs ?_ | refine' st5 ?qs ?_ | refine' st6 ?qs ?_ | refine' st7 ?qs ?_ | refine' st8 ?qs ?_ | refine' st9 ?qs ?_ | refine' st10 ?qs ?_ | refine' st11 ?qs ?_); (case qs => (first | exact zSet)))
      | (refine s_k 36 rfl ?_; refine s_val rfl rfl rfl (r_len tb rfl rfl rfl) ?_)
      | refine s_nil ?_)
      | (refine c_g ?_; first | refine c_seq ?_ | refine c_region ?_ | (refine c_gc ?_; first | refine c_cond1 rfl zTr ?_ | refine c_cond0 rfl zTr ?_ | refine z_condd1 rfl ?_ | refine z_condd0 rfl ?_ | refine z_conddn1 rfl ?_ | refine z_conddn0 rfl ?_ | refine c_condd rfl (fun hc => ?_) (fun hc => ?_) | refine c_conddn rfl (fun hc => ?_) (fun hc => ?_) | refine c_condn rfl (fun hc => ?_) (fun hc => ?_) | refine c_cond rfl (fun hc => ?_) (fun hc => ?_)) | refine c_block ?_ | refine c_skip ?_ | refine c_exit ?_ | refine c_ret ?_)
      | (refine e_g ?_; first | refine e_then ?_ | refine e_blkn ?_ | refine e_thenx ?_ | refine e_thenr ?_ | refine e_blkr ?_ | refine e_blkx ?_ | refine e_blky rfl ?_)
      | (refine e_ret1 (by simp) rfl (re_tmp rfl) fun w hL => ⟨rfl, hL.toBelow⟩))
end Go.Proofs.Ytpifngdmlmfnhaa
/- How many stakes reach a cell: counted in the joined lists. Plain, no condition. -/
namespace Go.Proofs.Ytpifngdmlmfnhaa
set_option linter.unusedVariables false
set_option linter.unusedSimpArgs false
open Go.RowKit Mem Wk

theorem rg_one (b : Bool) (m : Nat) : ∀ n, ((List.range n).filter fun k => b && decide (k = m)).length = if b && decide (m < n) then 1 else 0
  | 0 => by simp
  | n + 1 => by
    rw [List.range_succ, List.filter_append, List.length_append, rg_one b m n]
    cases b
    · simp
    · by_cases e : n = m
      · subst e; simp
      · have h : (m < n + 1) = (m < n) := propext (by omega)
        simp [e, h]
theorem cntS_cell {F : Sp → Bool} {c : Sp} (h : inR c) : cntS (cellL F 10 (10 * 10)) c = if F c then 1 else 0 := by
  have hq := rg_one (F c) (ci c) (10 * 10)
  have hci : ci c < 10 * 10 := by unfold ci; unfold inR at h; omega
  unfold cntS cellL
  rw [List.filter_filter, List.filter_map, List.length_map]
  have e : (List.range (10 * 10)).filter ((fun a => eqSp a c && F a) ∘ cellN 10) = (List.range (10 * 10)).filter fun k => F c && decide (k = ci c) := by
    apply List.filter_congr
    intro k hk
    simp only [Function.comp]
    by_cases e : k = ci c
    · subst e; rw [cellN_ci h]; simp [eqSp]
    · have h1 : eqSp (cellN 10 k) c = false := by
        unfold eqSp cellN
        unfold ci at e
        unfold inR at h
        simp only [Bool.and_eq_false_iff, decide_eq_false_iff_not]
        by_cases h2 : ((k % 10 : Nat) : Int) = c.x
        · right; omega
        · left; exact h2
      rw [h1, decide_eq_false e]; simp
  rw [e, hq]
  cases F c <;> simp [hci]
theorem cntS_append (A B : List Sp) (c : Sp) : cntS (A ++ B) c = cntS A c + cntS B c := by unfold cntS; rw [List.filter_append, List.length_append]
theorem cntS_tm {p : Nat → Int} (ha : p 0 ≤ 10) (hb : p 1 ≤ 10) {c : Sp} (h : inR c) : ∀ (L : List Sk), (∀ s ∈ L, s.ok) → (∀ s ∈ L, isC (p 0) (p 1) s.x s.y = true) → (((cntS (reaL p L).flatten c : Nat)) : Int) = tmN p L (ci c)
  | [], _, _ => rfl
  | s :: L, hok, hcell => by
    have ih := cntS_tm ha hb h L (fun t ht => hok t (List.mem_cons_of_mem _ ht)) (fun t ht => hcell t (List.mem_cons_of_mem _ ht))
    have h1 := cntS_cell (F := fun c => tbl (maskF p s) (ci c)) h
    rw [mask_reach (hok s List.mem_cons_self) ha hb (hcell s List.mem_cons_self)] at h1
    unfold reaL at ih ⊢
    rw [List.map_cons, List.flatten_cons, cntS_append, h1]
    unfold tmN at ih ⊢
    rw [List.filter_cons]
    simp only [Int.natCast_add, ih]
    cases tbl (maskF p s) (ci c) <;> simp <;> omega
/-- The cells that are counted so often. -/
theorem unc_cells {p : Nat → Int} {L : List Sk} {lo hi : Int} {acc : Int → Bool} (ha : p 0 ≤ 10) (hb : p 1 ≤ 10) (hok : ∀ s ∈ L, s.ok) (hcell : ∀ s ∈ L, isC (p 0) (p 1) s.x s.y = true) (hacc : ∀ m : Int, 0 ≤ m → m ≤ L.length → acc m = inB m lo hi) :
    pasL p (fun c => acc ((cntS (reaL p L).flatten c : Nat) : Int)) = pasL p (cntF p L lo hi) := by
  unfold pasL
  refine cellL_congr fun u v hu hv => ?_
  have hr : inR ⟨(u : Int), (v : Int)⟩ := by unfold inR; simp only; omega
  have h1 := cntS_tm ha hb hr L hok hcell
  have h2 := tmN_rng p L (ci ⟨(u : Int), (v : Int)⟩)
  unfold cntF
  rw [h1, hacc _ h2.1 h2.2]
end Go.Proofs.Ytpifngdmlmfnhaa
