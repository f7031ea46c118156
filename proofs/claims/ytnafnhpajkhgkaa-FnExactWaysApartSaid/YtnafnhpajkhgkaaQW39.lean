import Derived.Test.YtnafnhpajkhgkaaQW14
import Derived.Test.YtnafnhpajkhgkaaQW16
import Derived.Test.YtnafnhpajkhgkaaQW38
/- slices.Concat of lists of cells; append of nothing. No condition but a length of at most 2^20. -/
namespace Go.Proofs.Ytnafnhpajkhgkaa.Wk
set_option linter.unusedVariables false
set_option linter.unusedSimpArgs false
open Go Go.RowKit Mem
theorem run_appE {P : Program} (w : World) (t ty e : TypeId) (i : TypeInfo) (ht : P.underlying t = some (.slice e)) (hi : P.info? e = some i) (B A : Option Addr) (k cap c : Nat) (hk : k ≤ cap) :
    (Builtin.append_ #[t, t] ty #[.slice B k cap, .slice A 0 c]).run P w = .ok (.slice B k cap) w := by
  have hf : (Builtin.firstCells i.size 0 (.slice A 0 c)).run P w = .ok #[] w := by
    cases A with
    | none => exact run_firstCells_none _ _ _ _ _
    | some b => exact run_firstCells_some w i.size 0 b 0 c [] (by simp) (by simp)
  have hst : ∀ a : Addr, (storeCells a []).run P w = .ok () w := fun a => by simp [storeCells]
  cases B <;> simp [Builtin.append_, run_underlying ht, sizeOf, typeInfo, hi, Builtin.lenOf, hk, hf, hst]
variable {P : Program} {n : Nat} {O : List Nat} {w0 : World} {l : List (Nat × Value)} {L : List (Nat × TypeId × Array Value)} {Q : Exit → Act → World → Prop} {ops : Array Oper} {o : Oper} {rest : List Oper} {d : Nat} {x y : Operand}
/-- append of nothing -/
theorem s_appE {t e : TypeId} {zz : Value} {sz bytes : Nat} (ho : o.op = .call { callee := .builtin .append, args := #[x, y], argTypes := #[t, t] }) (ht : P.underlying t = some (.slice e)) (hi : (P.info? e).map (fun i => (i.zero, i.size, i.bytes)) = some (some zz, sz, bytes))
    {B A : Option Addr} {k cap c m : Nat} (hm : m = 0) (hx : ev l x = some (.slice B k cap)) (hy : ev l y = some (.slice A m c)) (hk : k ≤ cap) (hg : o.guard = none) (hd : o.dst = some d) (hdn : Nat.blt d n = true)
    (h : S P ops Q n O w0 rest ((d, .slice B k cap) :: l) L) : S P ops Q n O w0 (o :: rest) l L := fun a w hF hL =>
  wpList_plain hg fun K hK => by
    obtain ⟨i, q1, q2, q3, q4⟩ := info_parts hi
    subst hm
    have hr := run_appE (P := P) w t o.type e i ht q1 B A k cap c hk
    unfold Oper.wp execOp
    simp only [ho, resolve, invoke, builtin, Sem.run_bind, Sem.run_pure, Result.andThen_ok, List.map_toArray, List.map_cons, List.map_nil, hF.eval hx, hF.eval hy, hr]
    show K (a.put o.dst _) _
    rw [hd]
    exact hK _ _ (h _ _ (hF.put hdn _) hL)
end Go.Proofs.Ytnafnhpajkhgkaa.Wk
namespace Go.Proofs.Ytnafnhpajkhgkaa
set_option linter.unusedVariables false
set_option linter.unusedSimpArgs false
open Go.RowKit Mem Wk
attribute [local irreducible] Calls Wk.S Wk.C Wk.E Wk.X Wk.T Wk.Y Wk.anV Wk.orV Wk.andV Wk.shlV Wk.shrV Calm.wpLex CalmB.wpLex bfsN
/-- values in the cells of a slice -/
theorem apV {V : List Value} {n cap : Nat} {cur : Array Value} (h : Ap 1 n cap cur V) : n = V.length ∧ ∀ (j : Nat) v, V[j]? = some v → cur[0 + j * 1]? = some v := by
  have h1 := h.len
  rw [Nat.mul_one] at h1
  refine ⟨h1.symm, fun j v hv => ?_⟩
  have h2 := h.take
  rw [Nat.mul_one] at h2
  have hj := (List.getElem?_eq_some_iff.1 hv).1
  rw [← h2, List.getElem?_take, if_pos (by omega), Array.getElem?_toList] at hv
  rw [Nat.zero_add, Nat.mul_one]; exact hv
/-- lists of cells whose slices lie in a block -/
structure SSs (w : World) (S : List (List Sp)) (V : List Value) (cur : Array Value) : Prop where
  len : V.length = S.length
  at_ : ∀ (j : Nat) v, V[j]? = some v → cur[0 + j * 1]? = some v
  sl : ∀ (j : Nat) s v, S[j]? = some s → V[j]? = some v → Sl w 2 v (s.map Sp.cells)
theorem SSs.get {w : World} {S : List (List Sp)} {V : List Value} {cur : Array Value} (h : SSs w S V cur) {j : Nat} {s : List Sp} (hs : S[j]? = some s) : ∃ A cap, cur[0 + j * 1]? = some (.slice A s.length cap) ∧ SlA [] w 2 A (s.map Sp.cells) := by
  have hj := (List.getElem?_eq_some_iff.1 hs).1
  have hv : V[j]? = some (V[j]'(by rw [h.len]; exact hj)) := List.getElem?_eq_getElem _
  obtain ⟨A, cap, e, _, _, hS⟩ := (h.sl j s _ hs hv).open
  rw [List.length_map] at e
  rw [e] at hv
  exact ⟨A, cap, h.at_ j _ hv, hS⟩
theorem SSs.below {w w' : World} {S : List (List Sp)} {V : List Value} {cur : Array Value} (h : SSs w S V cur) (hb : Below w.heap.size w w') : SSs w' S V cur := ⟨h.len, h.at_, fun j s v hs hv => (h.sl j s v hs hv).below hb⟩
theorem SSs.items {w : World} {S : List (List Sp)} {items : List (Nat × Nat × Array Value)} {cap : Nat} {cur : Array Value} (hA : Ap 1 S.length cap cur (itV S items)) (hI : ItOk S items) (hin : ∀ i ∈ items, w.heap[i.1]? = some (.cells i.2.2 52 (0, 0))) : SSs w S (itV S items) cur := by
  refine ⟨itV_len hI.len, (apV hA).2, fun j s v hs hv => ?_⟩
  have hj := (List.getElem?_eq_some_iff.1 hs).1
  have hi : items[j]? = some (items[j]'(by rw [hI.len]; exact hj)) := List.getElem?_eq_getElem _
  unfold itV at hv
  rw [List.getElem?_zipWith, hs, hi] at hv
  injection hv with hv
  subst hv
  exact (hI.ap j s _ hs hi).toSl (lenSp s) (by omega) (hin _ (List.mem_of_getElem? hi))
theorem itR_mem {items : List (Nat × Nat × Array Value)} {i : Nat × Nat × Array Value} (h : i ∈ items) : (i.1, 52, i.2.2) ∈ itR items := by
  unfold itR; exact List.mem_map.2 ⟨i, List.mem_reverse.2 h, rfl⟩
theorem flS_append (a b : List Sp) : flS (a ++ b) = flS a ++ flS b := by simp [flS]
theorem totN_snoc {S : List (List Sp)} {k : Nat} {s : List Sp} (h : S[k]? = some s) : (S.take (k + 1)).flatten = (S.take k).flatten ++ s := by
  rw [List.take_add_one, h, List.flatten_append]; simp
theorem totN_le (S : List (List Sp)) (i : Nat) : (S.take i).flatten.length ≤ S.flatten.length := by
  conv => rhs; rw [← List.take_append_drop i S]
  rw [List.flatten_append, List.length_append]; omega
theorem oneSp (s : List Sp) : ∀ u ∈ (s.map Sp.cells).flatten, u.oneCell' = true := fun u hu => by
  obtain ⟨c, hc, h⟩ := List.mem_flatten.1 hu
  obtain ⟨e, _, rfl⟩ := List.mem_map.1 hc
  simp [Sp.cells] at h
  rcases h with rfl | rfl <;> rfl
set_option maxRecDepth 100000 in
set_option maxHeartbeats 1600000 in
theorem concat_some (S : List (List Sp)) (V : List Value) (g cap : Nat) (cur : Array Value) (T : TypeId) (w : World) (hg : w.heap[g]? = some (.cells cur T (0, 0))) (hV : SSs w S V cur) (hn : S.flatten.length ≤ 1048576) (hS : S.length ≤ 1048576) (h0 : 0 < S.flatten.length) :
    Calls Try.prog 77 #[.slice (some ⟨g, 0, none⟩) S.length cap] w (NewS 52 2 (flS S.flatten) w) := by
  refine enter1 Try.func77 rfl rfl rfl (Own.start w) ?_
  repeat' (first
    | (refine s_g ?_; first
      | (refine s_k 0 rfl ?_; refine s_val rfl rfl rfl (r_move rfl rfl) ?_)
      | (refine s_k 8 rfl ?_; first | (refine' s_val rfl rfl rfl (r_ldv rfl rfl ?qm ?qv) ?_; (case qm => (exact zMm)); (case qv => (exact zLe))) | (refine' s_val rfl rfl rfl (r_ldo rfl rfl ?qw (by simp) ?qv) ?_; (case qw => assumption); (case qv => (exact zLe))))
      | (refine s_k 1 rfl ?_; refine s_val rfl rfl rfl (r_assign rfl rfl) ?_)
      | (refine s_k 13 rfl ?_; first | refine s_val rfl rfl rfl (r_lss rfl rfl rfl) ?_ | refine s_val rfl rfl rfl (r_add rfl rfl rfl (wrap_in (by simp only [lo, hi]; omega))) ?_)
      | (refine s_k 25 rfl ?_; first | refine s_val rfl rfl rfl (r_ixN tb rfl rfl rfl rfl (by omega)) ?_ | refine s_val rfl rfl rfl (r_ixA tb rfl rfl rfl rfl (by omega) (by omega)) ?_ | refine s_val rfl rfl rfl (r_ixO tb rfl rfl rfl rfl (by omega)) ?_)
      | (refine s_k 36 rfl ?_; refine s_val rfl rfl rfl (r_len tb rfl rfl rfl) ?_)
      | refine s_nil ?_)
    | (refine c_g ?_; first | refine c_seq ?_ | refine c_region ?_ | (refine c_gc ?_; first | refine c_cond1 rfl zTr ?_ | refine c_cond0 rfl zTr ?_ | refine z_condd1 rfl ?_ | refine z_condd0 rfl ?_ | refine z_conddn1 rfl ?_ | refine z_conddn0 rfl ?_ | refine c_condd rfl (fun hc => ?_) (fun hc => ?_) | refine c_conddn rfl (fun hc => ?_) (fun hc => ?_) | refine c_condn rfl (fun hc => ?_) (fun hc => ?_) | refine c_cond rfl (fun hc => ?_) (fun hc => ?_)) | refine c_block ?_ | refine c_skip ?_ | refine c_exit ?_ | refine c_ret ?_)
    | (refine e_g ?_; first | refine e_then ?_ | refine e_blkn ?_ | refine e_thenx ?_ | refine e_thenr ?_ | refine e_blkr ?_ | refine e_blkx ?_ | refine e_blky rfl ?_))
  refine c_loop (ι := Nat) (fun i => S.length - i) (fun i => i ≤ S.length) (fun i => [(11, .int .i64 (i : Int)), (10, .int .i64 (S.length : Int)), (9, .slice (some ⟨g, 0, none⟩) S.length cap), (3, .int .i64 (((S.take i).flatten.length : Nat) : Int)), (0, .slice (some ⟨g, 0, none⟩) S.length cap)]) (fun i => []) 0 (by simp) ?hs rfl ?_
  case hs => (repeat' (first | exact sub_nil | refine sub_cons rfl ?_))
  rintro k hk
  have htl := totN_le S k
  have htl1 := totN_le S (k + 1)
  by_cases hlt : k < S.length
  · have hx : S[k]? = some S[k] := List.getElem?_eq_getElem hlt
    have hsn := totN_snoc hx
    obtain ⟨Ad, cp, hcv, _⟩ := hV.get hx
    have hsn2 : (S.take (k + 1)).flatten.length = (S.take k).flatten.length + S[k].length := by rw [hsn, List.length_append]
    generalize S[k] = s at *
    repeat' (first
      | (refine s_g ?_; first
      | (refine s_k 0 rfl ?_; refine s_val rfl rfl rfl (r_move rfl rfl) ?_)
      | (refine s_k 8 rfl ?_; first | refine s_val rfl rfl rfl (r_ldo rfl rfl hg (by simp) (ldv1 tb rfl hcv)) ?_ | (refine' s_val rfl rfl rfl (r_ldv rfl rfl ?qm ?qv) ?_; (case qm => (exact zMm)); (case qv => (exact zLe))) | (refine' s_val rfl rfl rfl (r_ldo rfl rfl ?qw (by simp) ?qv) ?_; (case qw => assumption); (case qv => (exact zLe))))
      | (refine s_k 1 rfl ?_; refine s_val rfl rfl rfl (r_assign rfl rfl) ?_)
      | (refine s_k 13 rfl ?_; first | refine s_val rfl rfl rfl (r_lss rfl rfl rfl) ?_ | refine s_val rfl rfl rfl (r_add rfl rfl rfl (wrap_in (by simp only [lo, hi]; omega))) ?_)
      | (refine s_k 25 rfl ?_; first | refine s_val rfl rfl rfl (r_ixO tb rfl rfl rfl rfl hlt) ?_ | refine s_val rfl rfl rfl (r_ixN tb rfl rfl rfl rfl (by omega)) ?_ | refine s_val rfl rfl rfl (r_ixA tb rfl rfl rfl rfl (by omega) (by omega)) ?_ | refine s_val rfl rfl rfl (r_ixO tb rfl rfl rfl rfl (by omega)) ?_)
      | (refine s_k 36 rfl ?_; refine s_val rfl rfl rfl (r_len tb rfl rfl rfl) ?_)
      | refine s_nil ?_)
      | (refine c_g ?_; first | refine c_seq ?_ | refine c_region ?_ | (refine c_gc ?_; first | refine c_cond1 rfl zTr ?_ | refine c_cond0 rfl zTr ?_ | refine z_condd1 rfl ?_ | refine z_condd0 rfl ?_ | refine z_conddn1 rfl ?_ | refine z_conddn0 rfl ?_ | refine c_condd rfl (fun hc => ?_) (fun hc => ?_) | refine c_conddn rfl (fun hc => ?_) (fun hc => ?_) | refine c_condn rfl (fun hc => ?_) (fun hc => ?_) | refine c_cond rfl (fun hc => ?_) (fun hc => ?_)) | refine c_block ?_ | refine c_skip ?_ | refine c_exit ?_ | refine c_ret ?_)
      | (refine e_g ?_; first | refine e_then ?_ | refine e_blkn ?_ | refine e_thenx ?_ | refine e_thenr ?_ | refine e_blkr ?_ | refine e_blkx ?_ | refine e_blky rfl ?_)
      | (refine e_round (k + 1) (by omega) (by omega) ?_ rfl))
    all_goals (first | (exfalso; omega) | (rw [hsn2]; (repeat' (first | exact sub_nil | refine sub_cons rfl ?_ | refine sub_cons' rfl (by simp) ?_))))
  · have hkl : k = S.length := by omega
    subst hkl
    rw [List.take_length]
    repeat' (first
      | (refine s_g ?_; first
      | (refine s_k 0 rfl ?_; refine s_val rfl rfl rfl (r_move rfl rfl) ?_)
      | (refine s_k 8 rfl ?_; first | (refine' s_val rfl rfl rfl (r_ldv rfl rfl ?qm ?qv) ?_; (case qm => (exact zMm)); (case qv => (exact zLe))) | (refine' s_val rfl rfl rfl (r_ldo rfl rfl ?qw (by simp) ?qv) ?_; (case qw => assumption); (case qv => (exact zLe))))
      | (refine s_k 1 rfl ?_; refine s_val rfl rfl rfl (r_assign rfl rfl) ?_)
      | (refine s_k 13 rfl ?_; first | refine s_val rfl rfl rfl (r_lss rfl rfl rfl) ?_ | refine s_val rfl rfl rfl (r_add rfl rfl rfl (wrap_in (by simp only [lo, hi]; omega))) ?_)
      | (refine s_k 35 rfl ?_; (refine s_callN Try.func102 (by kernel_rfl) rfl rfl rfl rfl rfl rfl (fun w hL => grow_some S.flatten.length w h0 hn) fun gw kw capw curw hAw => ?_))
      | (refine s_k 25 rfl ?_; first | refine s_val rfl rfl rfl (r_ixN tb rfl rfl rfl rfl (by omega)) ?_ | refine s_val rfl rfl rfl (r_ixA tb rfl rfl rfl rfl (by omega) (by omega)) ?_ | refine s_val rfl rfl rfl (r_ixO tb rfl rfl rfl rfl (by omega)) ?_)
      | (refine s_k 36 rfl ?_; refine s_val rfl rfl rfl (r_len tb rfl rfl rfl) ?_)
      | refine s_nil ?_)
      | (refine c_g ?_; first | refine c_seq ?_ | refine c_region ?_ | (refine c_gc ?_; first | refine c_cond1 rfl zTr ?_ | refine c_cond0 rfl zTr ?_ | refine z_condd1 rfl ?_ | refine z_condd0 rfl ?_ | refine z_conddn1 rfl ?_ | refine z_conddn0 rfl ?_ | refine c_condd rfl (fun hc => ?_) (fun hc => ?_) | refine c_conddn rfl (fun hc => ?_) (fun hc => ?_) | refine c_condn rfl (fun hc => ?_) (fun hc => ?_) | refine c_cond rfl (fun hc => ?_) (fun hc => ?_)) | refine c_block ?_ | refine c_skip ?_ | refine c_exit ?_ | refine c_ret ?_)
      | (refine e_g ?_; first | refine e_then ?_ | refine e_blkn ?_ | refine e_thenx ?_ | refine e_thenr ?_ | refine e_blkr ?_ | refine e_blkx ?_ | refine e_blky rfl ?_))
    have hkw : kw = 0 := by have := hAw.len; simp at this; omega
    subst hkw
    refine c_loop (ι := Nat × Nat × Nat × Array Value) (fun i => S.length - i.1) (fun i => i.1 ≤ S.length ∧ Ap 2 (S.take i.1).flatten.length i.2.2.1 i.2.2.2 (flS (S.take i.1).flatten)) (fun i => [(27, .int .i64 (i.1 : Int)), (26, .int .i64 (S.length : Int)), (25, .slice (some ⟨g, 0, none⟩) S.length cap), (6, .slice (some ⟨i.2.1, 0, none⟩) (S.take i.1).flatten.length i.2.2.1)]) (fun i => [(i.2.1, 52, i.2.2.2)]) (0, gw, capw, curw) ⟨by simp, by simpa [flS] using hAw⟩ ?hs rfl ?_
    case hs => (repeat' (first | exact sub_nil | refine sub_cons rfl ?_))
    rintro ⟨k, go, cpo, curo⟩ ⟨hk, hA⟩
    simp only at hk hA ⊢
    have htl := totN_le S k
    have htl1 := totN_le S (k + 1)
    by_cases hlt : k < S.length
    · have hx : S[k]? = some S[k] := List.getElem?_eq_getElem hlt
      have hsn := totN_snoc hx
      obtain ⟨Ad, cp, hcv, hSl⟩ := hV.get hx
      have hsn2 : (S.take (k + 1)).flatten.length = (S.take k).flatten.length + S[k].length := by rw [hsn, List.length_append]
      generalize S[k] = s at *
      by_cases hs0 : s.length = 0
      · have hse : s = [] := List.length_eq_zero_iff.1 hs0
        subst hse
        repeat' (first
          | (refine s_g ?_; first
      | (refine s_k 0 rfl ?_; refine s_val rfl rfl rfl (r_move rfl rfl) ?_)
      | (refine s_k 8 rfl ?_; first | refine s_val rfl rfl rfl (r_ldo rfl rfl hg (by simp) (ldv1 tb rfl hcv)) ?_ | (refine' s_val rfl rfl rfl (r_ldv rfl rfl ?qm ?qv) ?_; (case qm => (exact zMm)); (case qv => (exact zLe))) | (refine' s_val rfl rfl rfl (r_ldo rfl rfl ?qw (by simp) ?qv) ?_; (case qw => assumption); (case qv => (exact zLe))))
      | (refine s_k 1 rfl ?_; refine s_val rfl rfl rfl (r_assign rfl rfl) ?_)
      | (refine s_k 13 rfl ?_; first | refine s_val rfl rfl rfl (r_lss rfl rfl rfl) ?_ | refine s_val rfl rfl rfl (r_add rfl rfl rfl (wrap_in (by simp only [lo, hi]; omega))) ?_)
      | (refine s_k 25 rfl ?_; first | refine s_val rfl rfl rfl (r_ixO tb rfl rfl rfl rfl hlt) ?_ | refine s_val rfl rfl rfl (r_ixN tb rfl rfl rfl rfl (by omega)) ?_ | refine s_val rfl rfl rfl (r_ixA tb rfl rfl rfl rfl (by omega) (by omega)) ?_ | refine s_val rfl rfl rfl (r_ixO tb rfl rfl rfl rfl (by omega)) ?_)
      | (refine s_k 36 rfl ?_; first | refine s_appE rfl uSpotS iSpot rfl rfl rfl hA.le rfl rfl rfl ?_ | refine s_val rfl rfl rfl (r_len tb rfl rfl rfl) ?_)
      | refine s_nil ?_)
          | (refine c_g ?_; first | refine c_seq ?_ | refine c_region ?_ | (refine c_gc ?_; first | refine c_cond1 rfl zTr ?_ | refine c_cond0 rfl zTr ?_ | refine z_condd1 rfl ?_ | refine z_condd0 rfl ?_ | refine z_conddn1 rfl ?_ | refine z_conddn0 rfl ?_ | refine c_condd rfl (fun hc => ?_) (fun hc => ?_) | refine c_conddn rfl (fun hc => ?_) (fun hc => ?_) | refine c_condn rfl (fun hc => ?_) (fun hc => ?_) | refine c_cond rfl (fun hc => ?_) (fun hc => ?_)) | refine c_block ?_ | refine c_skip ?_ | refine c_exit ?_ | refine c_ret ?_)
          | (refine e_g ?_; first | refine e_then ?_ | refine e_blkn ?_ | refine e_thenx ?_ | refine e_thenr ?_ | refine e_blkr ?_ | refine e_blkx ?_ | refine e_blky rfl ?_)
          | (refine e_round (k + 1, go, cpo, curo) (by simp; omega) ⟨by simp; omega, by simp only; rw [hsn, List.append_nil]; exact hA⟩ ?_ rfl))
        all_goals (rw [hsn2]; (repeat' (first | exact sub_nil | refine sub_cons rfl ?_ | refine sub_cons' rfl (by simp) ?_)))
      · obtain ⟨e0, hs1⟩ : ∃ e, (s.map Sp.cells)[0]? = some e := by
          cases s with
          | nil => exact absurd rfl hs0
          | cons a s => exact ⟨a.cells, rfl⟩
        obtain ⟨_, b, off, rfl, _, _⟩ := hSl 0 _ hs1
        repeat' (first
          | (refine s_g ?_; first
      | (refine s_k 0 rfl ?_; refine s_val rfl rfl rfl (r_move rfl rfl) ?_)
      | (refine s_k 8 rfl ?_; first | refine s_val rfl rfl rfl (r_ldo rfl rfl hg (by simp) (ldv1 tb rfl hcv)) ?_ | (refine' s_val rfl rfl rfl (r_ldv rfl rfl ?qm ?qv) ?_; (case qm => (exact zMm)); (case qv => (exact zLe))) | (refine' s_val rfl rfl rfl (r_ldo rfl rfl ?qw (by simp) ?qv) ?_; (case qw => assumption); (case qv => (exact zLe))))
      | (refine s_k 1 rfl ?_; refine s_val rfl rfl rfl (r_assign rfl rfl) ?_)
      | (refine s_k 13 rfl ?_; first | refine s_val rfl rfl rfl (r_lss rfl rfl rfl) ?_ | refine s_val rfl rfl rfl (r_add rfl rfl rfl (wrap_in (by simp only [lo, hi]; omega))) ?_)
      | (refine s_k 25 rfl ?_; first | refine s_val rfl rfl rfl (r_ixO tb rfl rfl rfl rfl hlt) ?_ | refine s_val rfl rfl rfl (r_ixN tb rfl rfl rfl rfl (by omega)) ?_ | refine s_val rfl rfl rfl (r_ixA tb rfl rfl rfl rfl (by omega) (by omega)) ?_ | refine s_val rfl rfl rfl (r_ixO tb rfl rfl rfl rfl (by omega)) ?_)
      | (refine s_k 36 rfl ?_; first | refine s_appS (pre := []) rfl uSpotS iSpot rfl (by omega) hA hSl (by simp) rfl rfl (oneSp s) (by unfold maxLen; omega) (by omega) rfl rfl rfl fun g' cap' cur' hA' => ?_ | refine s_val rfl rfl rfl (r_len tb rfl rfl rfl) ?_)
      | refine s_nil ?_)
          | (refine c_g ?_; first | refine c_seq ?_ | refine c_region ?_ | (refine c_gc ?_; first | refine c_cond1 rfl zTr ?_ | refine c_cond0 rfl zTr ?_ | refine z_condd1 rfl ?_ | refine z_condd0 rfl ?_ | refine z_conddn1 rfl ?_ | refine z_conddn0 rfl ?_ | refine c_condd rfl (fun hc => ?_) (fun hc => ?_) | refine c_conddn rfl (fun hc => ?_) (fun hc => ?_) | refine c_condn rfl (fun hc => ?_) (fun hc => ?_) | refine c_cond rfl (fun hc => ?_) (fun hc => ?_)) | refine c_block ?_ | refine c_skip ?_ | refine c_exit ?_ | refine c_ret ?_)
          | (refine e_g ?_; first | refine e_then ?_ | refine e_blkn ?_ | refine e_thenx ?_ | refine e_thenr ?_ | refine e_blkr ?_ | refine e_blkx ?_ | refine e_blky rfl ?_)
          | (refine e_round (k + 1, g', cap', cur') (by simp; omega) ⟨by simp; omega, by simp only; rw [hsn2, hsn, flS_append]; exact hA'⟩ ?_ rfl))
        all_goals (rw [hsn2]; (repeat' (first | exact sub_nil | refine sub_cons rfl ?_ | refine sub_cons' rfl (by simp) ?_)))
    · have hkl : k = S.length := by omega
      subst hkl
      rw [List.take_length] at hA ⊢
      repeat' (first
        | (refine s_g ?_; first
      | (refine s_k 0 rfl ?_; refine s_val rfl rfl rfl (r_move rfl rfl) ?_)
      | (refine s_k 8 rfl ?_; first | (refine' s_val rfl rfl rfl (r_ldv rfl rfl ?qm ?qv) ?_; (case qm => (exact zMm)); (case qv => (exact zLe))) | (refine' s_val rfl rfl rfl (r_ldo rfl rfl ?qw (by simp) ?qv) ?_; (case qw => assumption); (case qv => (exact zLe))))
      | (refine s_k 1 rfl ?_; refine s_val rfl rfl rfl (r_assign rfl rfl) ?_)
      | (refine s_k 13 rfl ?_; first | refine s_val rfl rfl rfl (r_lss rfl rfl rfl) ?_ | refine s_val rfl rfl rfl (r_add rfl rfl rfl (wrap_in (by simp only [lo, hi]; omega))) ?_)
      | (refine s_k 25 rfl ?_; first | refine s_val rfl rfl rfl (r_ixN tb rfl rfl rfl rfl (by omega)) ?_ | refine s_val rfl rfl rfl (r_ixA tb rfl rfl rfl rfl (by omega) (by omega)) ?_ | refine s_val rfl rfl rfl (r_ixO tb rfl rfl rfl rfl (by omega)) ?_)
      | (refine s_k 36 rfl ?_; refine s_val rfl rfl rfl (r_len tb rfl rfl rfl) ?_)
      | refine s_nil ?_)
        | (refine c_g ?_; first | refine c_seq ?_ | refine c_region ?_ | (refine c_gc ?_; first | refine c_cond1 rfl zTr ?_ | refine c_cond0 rfl zTr ?_ | refine z_condd1 rfl ?_ | refine z_condd0 rfl ?_ | refine z_conddn1 rfl ?_ | refine z_conddn0 rfl ?_ | refine c_condd rfl (fun hc => ?_) (fun hc => ?_) | refine c_conddn rfl (fun hc => ?_) (fun hc => ?_) | refine c_condn rfl (fun hc => ?_) (fun hc => ?_) | refine c_cond rfl (fun hc => ?_) (fun hc => ?_)) | refine c_block ?_ | refine c_skip ?_ | refine c_exit ?_ | refine c_ret ?_)
        | (refine e_g ?_; first | refine e_then ?_ | refine e_blkn ?_ | refine e_thenx ?_ | refine e_thenr ?_ | refine e_blkr ?_ | refine e_blkx ?_ | refine e_blky rfl ?_)
        | (refine e_ret1 (by simp) rfl (re_tmp rfl) fun w hL => NewS.of hA hL m0))
set_option maxRecDepth 100000 in
set_option maxHeartbeats 1600000 in
theorem concat_none (S : List (List Sp)) (V : List Value) (g cap : Nat) (cur : Array Value) (T : TypeId) (w : World) (hg : w.heap[g]? = some (.cells cur T (0, 0))) (hV : SSs w S V cur) (hS : S.length ≤ 1048576) (h0 : S.flatten.length = 0) :
    Calls Try.prog 77 #[.slice (some ⟨g, 0, none⟩) S.length cap] w fun e w' => e = .returned (.slice none 0 0) ∧ Below w.heap.size w w' := by
  have hz : ∀ (k : Nat) s, S[k]? = some s → s.length = 0 := fun k s hs => by
    have h1 := totN_snoc hs
    have h2 := totN_le S (k + 1)
    rw [h1, List.length_append] at h2
    omega
  refine enter1 Try.func77 rfl rfl rfl (Own.start w) ?_
  repeat' (first
    | (refine s_g ?_; first
      | (refine s_k 0 rfl ?_; refine s_val rfl rfl rfl (r_move rfl rfl) ?_)
      | (refine s_k 8 rfl ?_; first | (refine' s_val rfl rfl rfl (r_ldv rfl rfl ?qm ?qv) ?_; (case qm => (exact zMm)); (case qv => (exact zLe))) | (refine' s_val rfl rfl rfl (r_ldo rfl rfl ?qw (by simp) ?qv) ?_; (case qw => assumption); (case qv => (exact zLe))))
      | (refine s_k 1 rfl ?_; refine s_val rfl rfl rfl (r_assign rfl rfl) ?_)
      | (refine s_k 13 rfl ?_; first | refine s_val rfl rfl rfl (r_lss rfl rfl rfl) ?_ | refine s_val rfl rfl rfl (r_add rfl rfl rfl (wrap_in (by simp only [lo, hi]; omega))) ?_)
      | (refine s_k 25 rfl ?_; first | refine s_val rfl rfl rfl (r_ixN tb rfl rfl rfl rfl (by omega)) ?_ | refine s_val rfl rfl rfl (r_ixA tb rfl rfl rfl rfl (by omega) (by omega)) ?_ | refine s_val rfl rfl rfl (r_ixO tb rfl rfl rfl rfl (by omega)) ?_)
      | (refine s_k 36 rfl ?_; refine s_val rfl rfl rfl (r_len tb rfl rfl rfl) ?_)
      | refine s_nil ?_)
    | (refine c_g ?_; first | refine c_seq ?_ | refine c_region ?_ | (refine c_gc ?_; first | refine c_cond1 rfl zTr ?_ | refine c_cond0 rfl zTr ?_ | refine z_condd1 rfl ?_ | refine z_condd0 rfl ?_ | refine z_conddn1 rfl ?_ | refine z_conddn0 rfl ?_ | refine c_condd rfl (fun hc => ?_) (fun hc => ?_) | refine c_conddn rfl (fun hc => ?_) (fun hc => ?_) | refine c_condn rfl (fun hc => ?_) (fun hc => ?_) | refine c_cond rfl (fun hc => ?_) (fun hc => ?_)) | refine c_block ?_ | refine c_skip ?_ | refine c_exit ?_ | refine c_ret ?_)
    | (refine e_g ?_; first | refine e_then ?_ | refine e_blkn ?_ | refine e_thenx ?_ | refine e_thenr ?_ | refine e_blkr ?_ | refine e_blkx ?_ | refine e_blky rfl ?_))
  refine c_loop (ι := Nat) (fun i => S.length - i) (fun i => i ≤ S.length) (fun i => [(11, .int .i64 (i : Int)), (10, .int .i64 (S.length : Int)), (9, .slice (some ⟨g, 0, none⟩) S.length cap), (3, .int .i64 0), (0, .slice (some ⟨g, 0, none⟩) S.length cap)]) (fun i => []) 0 (by simp) ?hs rfl ?_
  case hs => (repeat' (first | exact sub_nil | refine sub_cons rfl ?_))
  rintro k hk
  by_cases hlt : k < S.length
  · have hx : S[k]? = some S[k] := List.getElem?_eq_getElem hlt
    obtain ⟨Ad, cp, hcv, _⟩ := hV.get hx
    rw [hz k _ hx] at hcv
    repeat' (first
      | (refine s_g ?_; first
      | (refine s_k 0 rfl ?_; refine s_val rfl rfl rfl (r_move rfl rfl) ?_)
      | (refine s_k 8 rfl ?_; first | refine s_val rfl rfl rfl (r_ldo rfl rfl hg (by simp) (ldv1 tb rfl hcv)) ?_ | (refine' s_val rfl rfl rfl (r_ldv rfl rfl ?qm ?qv) ?_; (case qm => (exact zMm)); (case qv => (exact zLe))) | (refine' s_val rfl rfl rfl (r_ldo rfl rfl ?qw (by simp) ?qv) ?_; (case qw => assumption); (case qv => (exact zLe))))
      | (refine s_k 1 rfl ?_; refine s_val rfl rfl rfl (r_assign rfl rfl) ?_)
      | (refine s_k 13 rfl ?_; first | refine s_val rfl rfl rfl (r_lss rfl rfl rfl) ?_ | refine s_val rfl rfl rfl (r_add rfl rfl rfl (wrap_in (by simp only [lo, hi]; omega))) ?_)
      | (refine s_k 25 rfl ?_; first | refine s_val rfl rfl rfl (r_ixO tb rfl rfl rfl rfl hlt) ?_ | refine s_val rfl rfl rfl (r_ixN tb rfl rfl rfl rfl (by omega)) ?_ | refine s_val rfl rfl rfl (r_ixA tb rfl rfl rfl rfl (by omega) (by omega)) ?_ | refine s_val rfl rfl rfl (r_ixO tb rfl rfl rfl rfl (by omega)) ?_)
      | (refine s_k 36 rfl ?_; refine s_val rfl rfl rfl (r_len tb rfl rfl rfl) ?_)
      | refine s_nil ?_)
      | (refine c_g ?_; first | refine c_seq ?_ | refine c_region ?_ | (refine c_gc ?_; first | refine c_cond1 rfl zTr ?_ | refine c_cond0 rfl zTr ?_ | refine z_condd1 rfl ?_ | refine z_condd0 rfl ?_ | refine z_conddn1 rfl ?_ | refine z_conddn0 rfl ?_ | refine c_condd rfl (fun hc => ?_) (fun hc => ?_) | refine c_conddn rfl (fun hc => ?_) (fun hc => ?_) | refine c_condn rfl (fun hc => ?_) (fun hc => ?_) | refine c_cond rfl (fun hc => ?_) (fun hc => ?_)) | refine c_block ?_ | refine c_skip ?_ | refine c_exit ?_ | refine c_ret ?_)
      | (refine e_g ?_; first | refine e_then ?_ | refine e_blkn ?_ | refine e_thenx ?_ | refine e_thenr ?_ | refine e_blkr ?_ | refine e_blkx ?_ | refine e_blky rfl ?_)
      | (refine e_round (k + 1) (by omega) (by omega) ?_ rfl))
    all_goals (first | (exfalso; omega) | (repeat' (first | exact sub_nil | refine sub_cons rfl ?_ | refine sub_cons' rfl (by simp) ?_)))
  · have hkl : k = S.length := by omega
    subst hkl
    repeat' (first
      | (refine s_g ?_; first
      | (refine s_k 0 rfl ?_; refine s_val rfl rfl rfl (r_move rfl rfl) ?_)
      | (refine s_k 8 rfl ?_; first | (refine' s_val rfl rfl rfl (r_ldv rfl rfl ?qm ?qv) ?_; (case qm => (exact zMm)); (case qv => (exact zLe))) | (refine' s_val rfl rfl rfl (r_ldo rfl rfl ?qw (by simp) ?qv) ?_; (case qw => assumption); (case qv => (exact zLe))))
      | (refine s_k 1 rfl ?_; refine s_val rfl rfl rfl (r_assign rfl rfl) ?_)
      | (refine s_k 13 rfl ?_; first | refine s_val rfl rfl rfl (r_lss rfl rfl rfl) ?_ | refine s_val rfl rfl rfl (r_add rfl rfl rfl (wrap_in (by simp only [lo, hi]; omega))) ?_)
      | (refine s_k 35 rfl ?_; (refine s_call Try.func102 (by kernel_rfl) rfl rfl rfl rfl rfl rfl (fun w hL => grow_none w) ?_))
      | (refine s_k 25 rfl ?_; first | refine s_val rfl rfl rfl (r_ixN tb rfl rfl rfl rfl (by omega)) ?_ | refine s_val rfl rfl rfl (r_ixA tb rfl rfl rfl rfl (by omega) (by omega)) ?_ | refine s_val rfl rfl rfl (r_ixO tb rfl rfl rfl rfl (by omega)) ?_)
      | (refine s_k 36 rfl ?_; refine s_val rfl rfl rfl (r_len tb rfl rfl rfl) ?_)
      | refine s_nil ?_)
      | (refine c_g ?_; first | refine c_seq ?_ | refine c_region ?_ | (refine c_gc ?_; first | refine c_cond1 rfl zTr ?_ | refine c_cond0 rfl zTr ?_ | refine z_condd1 rfl ?_ | refine z_condd0 rfl ?_ | refine z_conddn1 rfl ?_ | refine z_conddn0 rfl ?_ | refine c_condd rfl (fun hc => ?_) (fun hc => ?_) | refine c_conddn rfl (fun hc => ?_) (fun hc => ?_) | refine c_condn rfl (fun hc => ?_) (fun hc => ?_) | refine c_cond rfl (fun hc => ?_) (fun hc => ?_)) | refine c_block ?_ | refine c_skip ?_ | refine c_exit ?_ | refine c_ret ?_)
      | (refine e_g ?_; first | refine e_then ?_ | refine e_blkn ?_ | refine e_thenx ?_ | refine e_thenr ?_ | refine e_blkr ?_ | refine e_blkx ?_ | refine e_blky rfl ?_))
    refine c_loop (ι := Nat) (fun i => S.length - i) (fun i => i ≤ S.length) (fun i => [(27, .int .i64 (i : Int)), (26, .int .i64 (S.length : Int)), (25, .slice (some ⟨g, 0, none⟩) S.length cap), (6, .slice none 0 0)]) (fun i => []) 0 (by simp) ?hs rfl ?_
    case hs => (repeat' (first | exact sub_nil | refine sub_cons rfl ?_))
    rintro k hk
    by_cases hlt : k < S.length
    · have hx : S[k]? = some S[k] := List.getElem?_eq_getElem hlt
      obtain ⟨Ad, cp, hcv, _⟩ := hV.get hx
      rw [hz k _ hx] at hcv
      repeat' (first
        | (refine s_g ?_; first
      | (refine s_k 0 rfl ?_; refine s_val rfl rfl rfl (r_move rfl rfl) ?_)
      | (refine s_k 8 rfl ?_; first | refine s_val rfl rfl rfl (r_ldo rfl rfl hg (by simp) (ldv1 tb rfl hcv)) ?_ | (refine' s_val rfl rfl rfl (r_ldv rfl rfl ?qm ?qv) ?_; (case qm => (exact zMm)); (case qv => (exact zLe))) | (refine' s_val rfl rfl rfl (r_ldo rfl rfl ?qw (by simp) ?qv) ?_; (case qw => assumption); (case qv => (exact zLe))))
      | (refine s_k 1 rfl ?_; refine s_val rfl rfl rfl (r_assign rfl rfl) ?_)
      | (refine s_k 13 rfl ?_; first | refine s_val rfl rfl rfl (r_lss rfl rfl rfl) ?_ | refine s_val rfl rfl rfl (r_add rfl rfl rfl (wrap_in (by simp only [lo, hi]; omega))) ?_)
      | (refine s_k 25 rfl ?_; first | refine s_val rfl rfl rfl (r_ixO tb rfl rfl rfl rfl hlt) ?_ | refine s_val rfl rfl rfl (r_ixN tb rfl rfl rfl rfl (by omega)) ?_ | refine s_val rfl rfl rfl (r_ixA tb rfl rfl rfl rfl (by omega) (by omega)) ?_ | refine s_val rfl rfl rfl (r_ixO tb rfl rfl rfl rfl (by omega)) ?_)
      | (refine s_k 36 rfl ?_; first | refine s_appE rfl uSpotS iSpot rfl rfl rfl (Nat.le_refl _) rfl rfl rfl ?_ | refine s_val rfl rfl rfl (r_len tb rfl rfl rfl) ?_)
      | refine s_nil ?_)
        | (refine c_g ?_; first | refine c_seq ?_ | refine c_region ?_ | (refine c_gc ?_; first | refine c_cond1 rfl zTr ?_ | refine c_cond0 rfl zTr ?_ | refine z_condd1 rfl ?_ | refine z_condd0 rfl ?_ | refine z_conddn1 rfl ?_ | refine z_conddn0 rfl ?_ | refine c_condd rfl (fun hc => ?_) (fun hc => ?_) | refine c_conddn rfl (fun hc => ?_) (fun hc => ?_) | refine c_condn rfl (fun hc => ?_) (fun hc => ?_) | refine c_cond rfl (fun hc => ?_) (fun hc => ?_)) | refine c_block ?_ | refine c_skip ?_ | refine c_exit ?_ | refine c_ret ?_)
        | (refine e_g ?_; first | refine e_then ?_ | refine e_blkn ?_ | refine e_thenx ?_ | refine e_thenr ?_ | refine e_blkr ?_ | refine e_blkx ?_ | refine e_blky rfl ?_)
        | (refine e_round (k + 1) (by omega) (by omega) ?_ rfl))
      all_goals (repeat' (first | exact sub_nil | refine sub_cons rfl ?_ | refine sub_cons' rfl (by simp) ?_))
    · repeat' (first
        | (refine s_g ?_; first
      | (refine s_k 0 rfl ?_; refine s_val rfl rfl rfl (r_move rfl rfl) ?_)
      | (refine s_k 8 rfl ?_; first | (refine' s_val rfl rfl rfl (r_ldv rfl rfl ?qm ?qv) ?_; (case qm => (exact zMm)); (case qv => (exact zLe))) | (refine' s_val rfl rfl rfl (r_ldo rfl rfl ?qw (by simp) ?qv) ?_; (case qw => assumption); (case qv => (exact zLe))))
      | (refine s_k 1 rfl ?_; refine s_val rfl rfl rfl (r_assign rfl rfl) ?_)
      | (refine s_k 13 rfl ?_; first | refine s_val rfl rfl rfl (r_lss rfl rfl rfl) ?_ | refine s_val rfl rfl rfl (r_add rfl rfl rfl (wrap_in (by simp only [lo, hi]; omega))) ?_)
      | (refine s_k 25 rfl ?_; first | refine s_val rfl rfl rfl (r_ixN tb rfl rfl rfl rfl (by omega)) ?_ | refine s_val rfl rfl rfl (r_ixA tb rfl rfl rfl rfl (by omega) (by omega)) ?_ | refine s_val rfl rfl rfl (r_ixO tb rfl rfl rfl rfl (by omega)) ?_)
      | (refine s_k 36 rfl ?_; refine s_val rfl rfl rfl (r_len tb rfl rfl rfl) ?_)
      | refine s_nil ?_)
        | (refine c_g ?_; first | refine c_seq ?_ | refine c_region ?_ | (refine c_gc ?_; first | refine c_cond1 rfl zTr ?_ | refine c_cond0 rfl zTr ?_ | refine z_condd1 rfl ?_ | refine z_condd0 rfl ?_ | refine z_conddn1 rfl ?_ | refine z_conddn0 rfl ?_ | refine c_condd rfl (fun hc => ?_) (fun hc => ?_) | refine c_conddn rfl (fun hc => ?_) (fun hc => ?_) | refine c_condn rfl (fun hc => ?_) (fun hc => ?_) | refine c_cond rfl (fun hc => ?_) (fun hc => ?_)) | refine c_block ?_ | refine c_skip ?_ | refine c_exit ?_ | refine c_ret ?_)
        | (refine e_g ?_; first | refine e_then ?_ | refine e_blkn ?_ | refine e_thenx ?_ | refine e_thenr ?_ | refine e_blkr ?_ | refine e_blkx ?_ | refine e_blky rfl ?_)
        | (refine e_ret1 (by simp) rfl (re_tmp rfl) fun w hL => ⟨rfl, hL.toBelow⟩))
end Go.Proofs.Ytnafnhpajkhgkaa
