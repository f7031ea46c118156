import Derived.Test.YtnfdefeafhepkaaQG20
import Derived.Test.YtnfdefeafhepkaaQG23
/- All sides and the hurdles that stand: the specification's lists and the program's are the same. No condition. -/
namespace Go.Proofs.Ytnfdefeafhepkaa
set_option linter.unusedVariables false
set_option linter.unusedSimpArgs false
open Go.RowKit Mem Wk
attribute [local irreducible] Calls Wk.S Wk.C Wk.E Wk.X Wk.T Wk.anV Wk.orV Wk.andV Wk.shlV Wk.shrV Calm.wpLex
def stP (p : Nat → Int) (h : Hd) : Bool := standB p h.x h.y h.s
def allSd (p : Nat → Int) : List Hd := sdL (isH p) (p 0).toNat ((p 1).toNat * (p 0).toNat)
def hursL (p : Nat → Int) : List Hd := (allSd p).filter (stP p)
theorem hursL_eq (p : Nat → Int) : hursL p = sdL (fun h => isH p h && stP p h) (p 0).toNat ((p 1).toNat * (p 0).toNat) := sdL_filter _ _ _ _
theorem validP_dims {p : Nat → Int} (h : validP p = true) : p 0 = ((p 0).toNat : Int) ∧ p 1 = ((p 1).toNat : Int) ∧ (p 0).toNat ≤ 10 ∧ (p 1).toNat ≤ 10 := by
  unfold validP at h
  simp only [Bool.and_eq_true] at h
  obtain ⟨h0, h1, _⟩ := h
  unfold inB at h0 h1
  simp at h0 h1
  omega
theorem allSd_len {p : Nat → Int} (h : validP p = true) : (allSd p).length ≤ 200 := by
  obtain ⟨_, _, h1, h2⟩ := validP_dims h
  have := sdL_len (isH p) (p 0).toNat ((p 1).toNat * (p 0).toNat)
  have : (p 1).toNat * (p 0).toNat ≤ 10 * 10 := Nat.mul_le_mul h2 h1
  unfold allSd; omega
theorem hursL_len {p : Nat → Int} (h : validP p = true) : (hursL p).length ≤ 200 := Nat.le_trans (List.length_filter_le _ _) (allSd_len h)
theorem allSd_isH {p : Nat → Int} {h : Hd} (hm : h ∈ allSd p) : isH p h = true := sdL_mem hm
theorem hursL_isH {p : Nat → Int} {h : Hd} (hm : h ∈ hursL p) : isH p h = true := allSd_isH (List.mem_filter.1 hm).1
theorem isH_cells {p : Nat → Int} {h : Hd} (hh : isH p h = true) : isC (p 0) (p 1) h.x h.y = true ∧ isC (p 0) (p 1) (nextX h.x (sdOf h.s)) (nextY h.y (sdOf h.s)) = true := by
  unfold isH at hh; simpa using hh
set_option maxRecDepth 100000 in
set_option maxHeartbeats 800000 in
theorem hurdles_any (p : Nat → Int) (cs : Array Value) (w : World) (hp : Pv p cs) (hv : validP p = true) :
    Calls Try.prog 112 #[.agg cs] w (NewS 139 3 (flH (hursL p)) w) := by
  have hsz := hp.size
  obtain ⟨hW, hH, hW10, hH10⟩ := validP_dims hv
  rw [hursL_eq]
  refine enter1 Try.func112 rfl rfl rfl (Own.start w) ?_
  repeat' (first
    | (refine s_g ?_; first
      | (refine s_k 8 rfl ?_; first | (refine' s_val rfl rfl rfl (r_ldv rfl rfl ?qm ?qv) ?_; (case qm => (exact zMm)); (case qv => (exact zLe))) | (refine' s_val rfl rfl rfl (r_ldo rfl rfl ?qw (by simp) ?qv) ?_; (case qw => assumption); (case qv => (exact zLe))))
      | (refine s_k 1 rfl ?_; refine s_val rfl rfl rfl (r_assign rfl rfl) ?_)
      | (refine s_k 35 rfl ?_; (refine s_callN Try.func137 (by kernel_rfl) rfl rfl rfl rfl rfl rfl (fun w hL => sides_any p cs (p 0).toNat (p 1).toNat 134 _ [_] [] (stP p) w hp hW hH hW10 hH10 Try.func134 (by kernel_rfl) rfl (fun h hh w' hb => (stands_any p cs h.x h.y h.s w' hp (isC_range (isH_cells hh).1 |> fun q => ⟨q.1, q.2.1⟩) (isC_range (isH_cells hh).1).2.2))) fun g k cap cur hA => ?_))
      | (refine s_k 4 rfl ?_; first | refine s_boxA rfl rfl rfl rfl rfl fun blk => ?_ | refine s_box1 rfl rfl rfl rfl rfl rfl fun blk => ?_)
      | (refine s_k 18 rfl ?_; refine s_val rfl rfl rfl (r_func rfl rfl rfl) ?_)
      | refine s_nil ?_)
    | (refine c_g ?_; first | refine c_seq ?_ | refine c_region ?_ | (refine c_gc ?_; first | refine c_cond1 rfl zTr ?_ | refine c_cond0 rfl zTr ?_ | refine z_condd1 rfl ?_ | refine z_condd0 rfl ?_ | refine z_conddn1 rfl ?_ | refine z_conddn0 rfl ?_ | refine c_condd rfl (fun hc => ?_) (fun hc => ?_) | refine c_conddn rfl (fun hc => ?_) (fun hc => ?_) | refine c_condn rfl (fun hc => ?_) (fun hc => ?_) | refine c_cond rfl (fun hc => ?_) (fun hc => ?_)) | refine c_block ?_ | refine c_skip ?_ | refine c_exit ?_ | refine c_ret ?_)
    | (refine e_g ?_; first | refine e_then ?_ | refine e_blkn ?_ | refine e_thenx ?_ | refine e_thenr ?_ | refine e_blkr ?_ | refine e_blkx ?_ | refine e_blky rfl ?_)
    | (refine e_ret1 (by simp) rfl (re_tmp rfl) fun w hL => NewS.of hA hL m0))
theorem sdL_at {f : Hd → Bool} {W x y : Nat} (hx : x < W) : sdL f W (y * W + (x + 1)) = sdL f W (y * W + x) ++ sdB f ⟨(x : Int), (y : Int)⟩ 2 := by
  rw [← Nat.add_assoc, sdL_snoc, cellN_at y hx]
end Go.Proofs.Ytnfdefeafhepkaa
/- Goats: what makes one valid. No condition. -/
namespace Go.Proofs.Ytnfdefeafhepkaa
set_option linter.unusedVariables false
set_option linter.unusedSimpArgs false
open Go.RowKit Mem
attribute [local irreducible] Calm.wpLex
/-- cells that lie from here on -/
def CellsAt (w : World) (b off : Nat) (c : List Value) : Prop := ∀ (j : Nat) (u : Value), c[j]? = some u → w.cell? ⟨b, off + j, none⟩ = some u
theorem CellsAt.below {w w' : World} {b off : Nat} {c : List Value} (h : CellsAt w b off c) (hb : Below w.heap.size w w') : CellsAt w' b off c := fun j u hu => by
  rw [hb.cell (p := ⟨b, off + j, none⟩) (World.block_lt_of_cell? w _ (h j u hu))]; exact h j u hu
theorem CellsAt.part {w : World} {b off : Nat} {c : List Value} (h : CellsAt w b off c) (k : Nat) {d : List Value} (hd : ∀ (j : Nat) (u : Value), d[j]? = some u → c[k + j]? = some u) : CellsAt w b (off + k) d := fun j u hu => by
  rw [Nat.add_assoc]; exact h _ _ (hd j u hu)
theorem Gt.at_ (g : Gt) : ∀ (j : Nat) (u : Value), (Sp.mk g.x g.y).cells[j]? = some u → g.cells[0 + j]? = some u := fun j u hu => by
  rcases j with _ | _ | j
  · exact hu
  · exact hu
  · cases hu
end Go.Proofs.Ytnfdefeafhepkaa
/- The cells for a goat: both functions. No condition. -/
namespace Go.Proofs.Ytnfdefeafhepkaa
set_option linter.unusedVariables false
set_option linter.unusedSimpArgs false
open Go.RowKit Mem Wk
attribute [local irreducible] Calls Wk.S Wk.C Wk.E Wk.X Wk.T Wk.Y Wk.anV Wk.orV Wk.andV Wk.shlV Wk.shrV Calm.wpLex CalmB.wpLex bfsN
theorem yardL_len {p : Nat → Int} {o : Sp} (ha : p 0 ≤ 10) (hb : p 1 ≤ 10) (hc : isC (p 0) (p 1) o.x o.y = true) : (yardL p o).length ≤ 100 := by
  obtain ⟨_, _, hW10, hH10⟩ := dims ha hb hc
  unfold yardL pasL
  exact Nat.le_trans (cellL_len _ _ _) (Nat.mul_le_mul hH10 hW10)
set_option maxRecDepth 100000 in
set_option maxHeartbeats 1600000 in
theorem l01Yard_any (p : Nat → Int) (cs : Array Value) (T : TypeId) (gp : Nat) (o : Sp) (w : World) (hp : Pv p cs) (hg : w.heap[gp]? = some (.cells cs T (0, 0))) (ha : p 0 ≤ 10) (hb : p 1 ≤ 10) (hc : isC (p 0) (p 1) o.x o.y = true) :
    Calls Try.prog 128 #[.pointer (some ⟨gp, 0, none⟩), .agg #[.int .i8 o.x, .int .i8 o.y]] w (NewS 66 2 (flS (yardL p o)) w) := by
  obtain ⟨hW, hH, hW10, hH10⟩ := dims ha hb hc
  have hr : inR o := isC_range hc
  have hD := strD_val p (o := o) hr
  have hT : GI .i64 0 (strD p o) (giA .i64 0 (strD p o)) := giA_ok .i64 0 _
  have h0 := hp.g0
  have h1 := hp.g1
  rw [hW] at h0; rw [hH] at h1
  unfold yardL pasL
  generalize (p 0).toNat = W at *
  generalize (p 1).toNat = H at *
  refine enter2 Try.func128 rfl rfl rfl (Own.start w) ?_
  repeat' (first
    | (refine s_g ?_; first
      | (refine s_k 0 rfl ?_; refine s_val rfl rfl rfl (r_move rfl rfl) ?_)
      | (refine s_k 23 rfl ?_; first | refine s_val rfl rfl rfl (r_field tb rfl rfl rfl) ?_ | refine s_val rfl rfl rfl (r_fieldS tb rfl rfl rfl) ?_)
      | (refine s_k 8 rfl ?_; first | (refine' s_val rfl rfl rfl (r_ldv rfl rfl ?qm ?qv) ?_; (case qm => (exact zMm)); (case qv => (exact zLe))) | (refine' s_val rfl rfl rfl (r_ldo rfl rfl ?qw (by simp) ?qv) ?_; (case qw => assumption); (case qv => (exact zLe))))
      | (refine s_k 1 rfl ?_; refine s_val rfl rfl rfl (r_assign rfl rfl) ?_)
      | (refine s_k 13 rfl ?_; first | refine s_val rfl rfl rfl (r_lss rfl rfl rfl) ?_ | refine s_val rfl rfl rfl (r_add rfl rfl rfl (wrap_in (by simp only [lo, hi]; omega))) ?_ | refine s_val rfl rfl rfl (r_gtr rfl rfl rfl) ?_)
      | (refine s_k 35 rfl ?_; (refine s_call Try.func131 (by kernel_rfl) rfl rfl rfl rfl rfl rfl (fun w hL => l01Steps_any p cs T gp o _ hp (Kn.old hL hg (by simp)) ha hb hr) ?_))
      | (refine s_k 25 rfl ?_; first | refine s_val rfl rfl rfl (r_ixN tb rfl rfl rfl rfl (by omega)) ?_ | refine s_val rfl rfl rfl (r_ixA tb rfl rfl rfl rfl (by omega) (by omega)) ?_ | refine s_val rfl rfl rfl (r_ixO tb rfl rfl rfl rfl (by omega)) ?_)
      | (refine s_k 4 rfl ?_; first | refine s_boxA rfl rfl rfl rfl rfl fun blk => ?_ | refine s_box1 rfl rfl rfl rfl rfl rfl fun blk => ?_)
      | (refine s_k 9 rfl ?_; (first | refine s_st1 tb rfl rfl rfl rfl rfl rfl rfl rfl ?_ | refine s_stA tb rfl rfl rfl rfl (by first | rfl | assumption | (apply Pv.size; assumption)) rfl rfl ?_); (first | refine' st0 ?qs ?_ | refine' st1 ?qs ?_ | refine' st2 ?qs ?_ | refine' st3 ?qs ?_ | refine' st4 ?qs ?_ | refine' st5 ?qs ?_ | refine' st6 ?qs ?_ | refine' st7 ?qs ?_ | refine' st8 ?qs ?_ | refine' st9 ?qs ?_ | refine' st10 ?qs ?_ | refine' st11 ?qs ?_); (case qs => (first | exact setG (giA_ok _ _ _) zS64_ok.size | exact zSet)))
      | (refine s_k 3 rfl ?_; refine s_allocA (t := 155) rfl z1010 rfl rfl rfl fun blk => ?_)
      | (refine s_k 12 rfl ?_; refine s_val rfl rfl rfl (r_nil rfl rfl) ?_)
      | (refine s_k 6 rfl ?_; refine s_bsl rfl rfl (fun w => slSpot0 w) rfl rfl rfl fun blk => ?_)
      | refine s_nil ?_)
    | (refine c_g ?_; first | refine c_seq ?_ | refine c_region ?_ | (refine c_gc ?_; first | refine c_cond1 rfl zTr ?_ | refine c_cond0 rfl zTr ?_ | refine z_condd1 rfl ?_ | refine z_condd0 rfl ?_ | refine z_conddn1 rfl ?_ | refine z_conddn0 rfl ?_ | refine c_condd rfl (fun hc => ?_) (fun hc => ?_) | refine c_conddn rfl (fun hc => ?_) (fun hc => ?_) | refine c_condn rfl (fun hc => ?_) (fun hc => ?_) | refine c_cond rfl (fun hc => ?_) (fun hc => ?_)) | refine c_block ?_ | refine c_skip ?_ | refine c_exit ?_ | refine c_ret ?_)
    | (refine e_g ?_; first | refine e_then ?_ | refine e_blkn ?_ | refine e_thenx ?_ | refine e_thenr ?_ | refine e_blkr ?_ | refine e_blkx ?_ | refine e_blky rfl ?_))
  rename_i b3 b5
  refine c_loop (ι := Nat × Nat × Nat × Array Value) (fun i => H - i.1) (fun i => i.1 ≤ H ∧ Ap 2 (cellL (yardF p o) W (i.1 * W)).length i.2.2.1 i.2.2.2 (flS (cellL (yardF p o) W (i.1 * W)))) (fun i => [(7, .int .i8 (i.1 : Int)), (6, .slice (some ⟨i.2.1, 0, none⟩) (cellL (yardF p o) W (i.1 * W)).length i.2.2.1), (0, .pointer (some ⟨gp, 0, none⟩)), (5, .pointer (some ⟨b5, 0, none⟩))]) (fun i => [(i.2.1, 66, i.2.2.2), (b5, 155, giA .i64 0 (strD p o)), (b3, 66, #[.int .i8 o.x, .int .i8 o.y])]) (0, blk, 0, #[]) ⟨by simp, by simpa [cellL, flS] using Ap.nil 2⟩ ?hs rfl ?_
  case hs => exact sub_cons rfl (sub_cons' rfl (by simp [cellL]) (by repeat' (first | exact sub_nil | refine sub_cons rfl ?_)))
  rintro ⟨y, g, cap, cur⟩ ⟨hk, hA⟩
  simp only at hk hA ⊢
  have hbl := cellL_len (yardF p o) W (y * W)
  have hyW : y * W ≤ 10 * 10 := Nat.mul_le_mul (by omega) hW10
  by_cases hlt : y < H
  · repeat' (first
      | (refine s_g ?_; first
      | (refine s_k 0 rfl ?_; refine s_val rfl rfl rfl (r_move rfl rfl) ?_)
      | (refine s_k 23 rfl ?_; first | refine s_val rfl rfl rfl (r_field tb rfl rfl rfl) ?_ | refine s_val rfl rfl rfl (r_fieldS tb rfl rfl rfl) ?_)
      | (refine s_k 8 rfl ?_; first | (refine' s_val rfl rfl rfl (r_ldv rfl rfl ?qm ?qv) ?_; (case qm => (exact zMm)); (case qv => (first | exact ldvL tb rfl rfl | exact ldv1 tb rfl (by assumption) | exact ldv1 tb rfl (h0) | exact ldv1 tb rfl (h1) | exact zLd))) | (refine' s_val rfl rfl rfl (r_ldo rfl rfl ?qw (by simp) ?qv) ?_; (case qw => assumption); (case qv => (first | exact ldvL tb rfl rfl | exact ldv1 tb rfl (by assumption) | exact ldv1 tb rfl (h0) | exact ldv1 tb rfl (h1) | exact zLd))))
      | (refine s_k 1 rfl ?_; refine s_val rfl rfl rfl (r_assign rfl rfl) ?_)
      | (refine s_k 13 rfl ?_; first | refine s_val rfl rfl rfl (r_lss rfl rfl rfl) ?_ | refine s_val rfl rfl rfl (r_add rfl rfl rfl (wrap_in (by simp only [lo, hi]; omega))) ?_ | refine s_val rfl rfl rfl (r_gtr rfl rfl rfl) ?_)
      | (refine s_k 25 rfl ?_; first | refine s_val rfl rfl rfl (r_ixN tb rfl rfl rfl rfl (by omega)) ?_ | refine s_val rfl rfl rfl (r_ixA tb rfl rfl rfl rfl (by omega) (by omega)) ?_ | refine s_val rfl rfl rfl (r_ixO tb rfl rfl rfl rfl (by omega)) ?_)
      | (refine s_k 4 rfl ?_; first | refine s_boxA rfl rfl rfl rfl rfl fun blk => ?_ | refine s_box1 rfl rfl rfl rfl rfl rfl fun blk => ?_)
      | (refine s_k 9 rfl ?_; (first | refine s_st1 tb rfl rfl rfl rfl rfl rfl rfl rfl ?_ | refine s_stA tb rfl rfl rfl rfl (by first | rfl | assumption | (apply Pv.size; assumption)) rfl rfl ?_); (first | refine' st0 ?qs ?_ | refine' st1 ?qs ?_ | refine' st2 ?qs ?_ | refine' st3 ?qs ?_ | refine' st4 ?qs ?_ | refine' st5 ?qs ?_ | refine' st6 ?qs ?_ | refine' st7 ?qs ?_ | refine' st8 ?qs ?_ | refine' st9 ?qs ?_ | refine' st10 ?qs ?_ | refine' st11 ?qs ?_); (case qs => (first | exact zSet)))
      | (refine s_k 12 rfl ?_; refine s_val rfl rfl rfl (r_nil rfl rfl) ?_)
      | refine s_nil ?_)
      | (refine c_g ?_; first | refine c_seq ?_ | refine c_region ?_ | (refine c_gc ?_; first | refine c_cond1 rfl zTr ?_ | refine c_cond0 rfl zTr ?_ | refine z_condd1 rfl ?_ | refine z_condd0 rfl ?_ | refine z_conddn1 rfl ?_ | refine z_conddn0 rfl ?_ | refine c_condd rfl (fun hc => ?_) (fun hc => ?_) | refine c_conddn rfl (fun hc => ?_) (fun hc => ?_) | refine c_condn rfl (fun hc => ?_) (fun hc => ?_) | refine c_cond rfl (fun hc => ?_) (fun hc => ?_)) | refine c_block ?_ | refine c_skip ?_ | refine c_exit ?_ | refine c_ret ?_)
      | (refine e_g ?_; first | refine e_then ?_ | refine e_blkn ?_ | refine e_thenx ?_ | refine e_thenr ?_ | refine e_blkr ?_ | refine e_blkx ?_ | refine e_blky rfl ?_))
    refine c_loop (ι := Nat × Nat × Nat × Array Value) (fun i => W - i.1) (fun i => i.1 ≤ W ∧ Ap 2 (cellL (yardF p o) W (y * W + i.1)).length i.2.2.1 i.2.2.2 (flS (cellL (yardF p o) W (y * W + i.1)))) (fun i => [(8, .int .i8 (i.1 : Int)), (7, .int .i8 (y : Int)), (6, .slice (some ⟨i.2.1, 0, none⟩) (cellL (yardF p o) W (y * W + i.1)).length i.2.2.1), (0, .pointer (some ⟨gp, 0, none⟩)), (5, .pointer (some ⟨b5, 0, none⟩))]) (fun i => [(i.2.1, 66, i.2.2.2), (b5, 155, giA .i64 0 (strD p o)), (b3, 66, #[.int .i8 o.x, .int .i8 o.y])]) (0, g, cap, cur) ⟨by simp, hA⟩ ?hs rfl ?_
    case hs => (repeat' (first | exact sub_nil | refine sub_cons rfl ?_))
    rintro ⟨x, g, cap, cur⟩ ⟨hk2, hA⟩
    simp only at hk2 hA ⊢
    have hbx := cellL_len (yardF p o) W (y * W + x)
    by_cases hltx : x < W
    · have hld := hT.atN (x := x) (y := y) (by omega) (by omega)
      cases hcan : yardF p o ⟨(x : Int), (y : Int)⟩
      case' true =>
        have hb1 := cellL_yes hltx hcan
        have hpos : 0 < strD p o (ci ⟨(x : Int), (y : Int)⟩) - 0 := by unfold yardF at hcan; have := of_decide_eq_true hcan; omega
      case' false =>
        have hb1 := cellL_no hltx hcan
        have hpos : ¬ 0 < strD p o (ci ⟨(x : Int), (y : Int)⟩) - 0 := by unfold yardF at hcan; have := of_decide_eq_false hcan; omega
      all_goals
        repeat' (first
          | (refine s_g ?_; first
      | (refine s_k 0 rfl ?_; refine s_val rfl rfl rfl (r_move rfl rfl) ?_)
      | (refine s_k 23 rfl ?_; first | refine s_val rfl rfl rfl (r_field tb rfl rfl rfl) ?_ | refine s_val rfl rfl rfl (r_fieldS tb rfl rfl rfl) ?_)
      | (refine s_k 8 rfl ?_; first | (refine' s_val rfl rfl rfl (r_ldv rfl rfl ?qm ?qv) ?_; (case qm => (exact zMm)); (case qv => (first | exact ldvL tb rfl rfl | exact ldv1 tb rfl (by assumption) | exact ldv1 tb rfl (hld) | exact ldv1 tb rfl (h0) | exact zLd))) | (refine' s_val rfl rfl rfl (r_ldo rfl rfl ?qw (by simp) ?qv) ?_; (case qw => assumption); (case qv => (first | exact ldvL tb rfl rfl | exact ldv1 tb rfl (by assumption) | exact ldv1 tb rfl (hld) | exact ldv1 tb rfl (h0) | exact zLd))))
      | (refine s_k 1 rfl ?_; refine s_val rfl rfl rfl (r_assign rfl rfl) ?_)
      | (refine s_k 13 rfl ?_; first | refine s_val rfl rfl rfl (r_lss rfl rfl rfl) ?_ | refine s_val rfl rfl rfl (r_add rfl rfl rfl (wrap_in (by simp only [lo, hi]; omega))) ?_ | refine s_val rfl rfl rfl (r_gtr rfl rfl rfl) ?_)
      | (refine s_k 25 rfl ?_; first | refine s_val rfl rfl rfl (r_ixN tb rfl rfl rfl rfl (by omega)) ?_ | refine s_val rfl rfl rfl (r_ixA tb rfl rfl rfl rfl (by omega) (by omega)) ?_ | refine s_val rfl rfl rfl (r_ixO tb rfl rfl rfl rfl (by omega)) ?_)
      | (refine s_k 4 rfl ?_; first | refine s_boxA rfl rfl rfl rfl rfl fun blk => ?_ | refine s_box1 rfl rfl rfl rfl rfl rfl fun blk => ?_)
      | (refine s_k 9 rfl ?_; (first | refine s_st1 tb rfl rfl rfl rfl rfl rfl rfl rfl ?_ | refine s_stA tb rfl rfl rfl rfl (by first | rfl | assumption | (apply Pv.size; assumption)) rfl rfl ?_); (first | refine' st0 ?qs ?_ | refine' st1 ?qs ?_ | refine' st2 ?qs ?_ | refine' st3 ?qs ?_ | refine' st4 ?qs ?_ | refine' st5 ?qs ?_ | refine' st6 ?qs ?_ | refine' st7 ?qs ?_ | refine' st8 ?qs ?_ | refine' st9 ?qs ?_ | refine' st10 ?qs ?_ | refine' st11 ?qs ?_); (case qs => (first | exact zSet)))
      | (refine s_k 36 rfl ?_; refine s_app0 hA rfl rfl rfl uSpotS iSpot rfl (by omega) (by simp) (by simp) rfl (by simp [Value.oneCell']) (by unfold maxLen; omega) (by omega) rfl rfl rfl fun g cap cur hA => ?_)
      | (refine s_k 12 rfl ?_; refine s_val rfl rfl rfl (r_nil rfl rfl) ?_)
      | (refine s_k 5 rfl ?_; refine s_val rfl rfl rfl (r_build rfl rfl (fun w => bSpot _ _ rfl rfl w)) ?_)
      | (refine s_k 6 rfl ?_; refine s_bsl rfl rfl (fun w => slSpot1 _ _ w) rfl rfl rfl fun blk => ?_)
      | refine s_nil ?_)
          | (refine c_g ?_; first | refine c_seq ?_ | refine c_region ?_ | (refine c_gc ?_; first | refine c_cond1 rfl zTr ?_ | refine c_cond0 rfl zTr ?_ | refine z_condd1 rfl ?_ | refine z_condd0 rfl ?_ | refine z_conddn1 rfl ?_ | refine z_conddn0 rfl ?_ | refine c_condd rfl (fun hc => ?_) (fun hc => ?_) | refine c_conddn rfl (fun hc => ?_) (fun hc => ?_) | refine c_condn rfl (fun hc => ?_) (fun hc => ?_) | refine c_cond rfl (fun hc => ?_) (fun hc => ?_)) | refine c_block ?_ | refine c_skip ?_ | refine c_exit ?_ | refine c_ret ?_)
          | (refine e_g ?_; first | refine e_then ?_ | refine e_blkn ?_ | refine e_thenx ?_ | refine e_thenr ?_ | refine e_blkr ?_ | refine e_blkx ?_ | refine e_blky rfl ?_)
          | refine e_round (x + 1, g, cap, cur) (by simp; omega) ⟨by simp; omega, ?_⟩ ?_ rfl)
        all_goals first
          | (rw [hb1]; exact sub_cons' rfl (by simp) (sub_cons rfl (sub_cons' rfl (by simp) (by repeat' (first | exact sub_nil | refine sub_cons rfl ?_)))))
          | (rw [hb1]; first | exact hA | (rw [flS_snoc]; simpa [Sp.cells] using hA))
    · have hxW : x = W := by omega
      subst hxW
      repeat' (first
        | (refine s_g ?_; first
      | (refine s_k 0 rfl ?_; refine s_val rfl rfl rfl (r_move rfl rfl) ?_)
      | (refine s_k 23 rfl ?_; first | refine s_val rfl rfl rfl (r_field tb rfl rfl rfl) ?_ | refine s_val rfl rfl rfl (r_fieldS tb rfl rfl rfl) ?_)
      | (refine s_k 8 rfl ?_; first | (refine' s_val rfl rfl rfl (r_ldv rfl rfl ?qm ?qv) ?_; (case qm => (exact zMm)); (case qv => (first | exact ldvL tb rfl rfl | exact ldv1 tb rfl (by assumption) | exact ldv1 tb rfl (h0) | exact zLd))) | (refine' s_val rfl rfl rfl (r_ldo rfl rfl ?qw (by simp) ?qv) ?_; (case qw => assumption); (case qv => (first | exact ldvL tb rfl rfl | exact ldv1 tb rfl (by assumption) | exact ldv1 tb rfl (h0) | exact zLd))))
      | (refine s_k 1 rfl ?_; refine s_val rfl rfl rfl (r_assign rfl rfl) ?_)
      | (refine s_k 13 rfl ?_; first | refine s_val rfl rfl rfl (r_lss rfl rfl rfl) ?_ | refine s_val rfl rfl rfl (r_add rfl rfl rfl (wrap_in (by simp only [lo, hi]; omega))) ?_ | refine s_val rfl rfl rfl (r_gtr rfl rfl rfl) ?_)
      | (refine s_k 25 rfl ?_; first | refine s_val rfl rfl rfl (r_ixN tb rfl rfl rfl rfl (by omega)) ?_ | refine s_val rfl rfl rfl (r_ixA tb rfl rfl rfl rfl (by omega) (by omega)) ?_ | refine s_val rfl rfl rfl (r_ixO tb rfl rfl rfl rfl (by omega)) ?_)
      | (refine s_k 4 rfl ?_; first | refine s_boxA rfl rfl rfl rfl rfl fun blk => ?_ | refine s_box1 rfl rfl rfl rfl rfl rfl fun blk => ?_)
      | (refine s_k 9 rfl ?_; (first | refine s_st1 tb rfl rfl rfl rfl rfl rfl rfl rfl ?_ | refine s_stA tb rfl rfl rfl rfl (by first | rfl | assumption | (apply Pv.size; assumption)) rfl rfl ?_); (first | refine' st0 ?qs ?_ | refine' st1 ?qs ?_ | refine' st2 ?qs ?_ | refine' st3 ?qs ?_ | refine' st4 ?qs ?_ | refine' st5 ?qs ?_ | refine' st6 ?qs ?_ | refine' st7 ?qs ?_ | refine' st8 ?qs ?_ | refine' st9 ?qs ?_ | refine' st10 ?qs ?_ | refine' st11 ?qs ?_); (case qs => (first | exact zSet)))
      | (refine s_k 12 rfl ?_; refine s_val rfl rfl rfl (r_nil rfl rfl) ?_)
      | refine s_nil ?_)
        | (refine c_g ?_; first | refine c_seq ?_ | refine c_region ?_ | (refine c_gc ?_; first | refine c_cond1 rfl zTr ?_ | refine c_cond0 rfl zTr ?_ | refine z_condd1 rfl ?_ | refine z_condd0 rfl ?_ | refine z_conddn1 rfl ?_ | refine z_conddn0 rfl ?_ | refine c_condd rfl (fun hc => ?_) (fun hc => ?_) | refine c_conddn rfl (fun hc => ?_) (fun hc => ?_) | refine c_condn rfl (fun hc => ?_) (fun hc => ?_) | refine c_cond rfl (fun hc => ?_) (fun hc => ?_)) | refine c_block ?_ | refine c_skip ?_ | refine c_exit ?_ | refine c_ret ?_)
        | (refine e_g ?_; first | refine e_then ?_ | refine e_blkn ?_ | refine e_thenx ?_ | refine e_thenr ?_ | refine e_blkr ?_ | refine e_blkx ?_ | refine e_blky rfl ?_)
        | refine e_round (y + 1, g, cap, cur) (by simp; omega) ⟨by simp; omega, ?_⟩ ?_ rfl)
      all_goals first
        | (rw [Nat.succ_mul]; exact sub_cons' rfl (by simp) (by repeat' (first | exact sub_nil | refine sub_cons rfl ?_)))
        | (rw [Nat.succ_mul]; exact hA)
  · have hyH : y = H := by omega
    subst hyH
    repeat' (first
      | (refine s_g ?_; first
      | (refine s_k 0 rfl ?_; refine s_val rfl rfl rfl (r_move rfl rfl) ?_)
      | (refine s_k 23 rfl ?_; first | refine s_val rfl rfl rfl (r_field tb rfl rfl rfl) ?_ | refine s_val rfl rfl rfl (r_fieldS tb rfl rfl rfl) ?_)
      | (refine s_k 8 rfl ?_; first | (refine' s_val rfl rfl rfl (r_ldv rfl rfl ?qm ?qv) ?_; (case qm => (exact zMm)); (case qv => (first | exact ldvL tb rfl rfl | exact ldv1 tb rfl (by assumption) | exact ldv1 tb rfl (h1) | exact zLd))) | (refine' s_val rfl rfl rfl (r_ldo rfl rfl ?qw (by simp) ?qv) ?_; (case qw => assumption); (case qv => (first | exact ldvL tb rfl rfl | exact ldv1 tb rfl (by assumption) | exact ldv1 tb rfl (h1) | exact zLd))))
      | (refine s_k 1 rfl ?_; refine s_val rfl rfl rfl (r_assign rfl rfl) ?_)
      | (refine s_k 13 rfl ?_; first | refine s_val rfl rfl rfl (r_lss rfl rfl rfl) ?_ | refine s_val rfl rfl rfl (r_add rfl rfl rfl (wrap_in (by simp only [lo, hi]; omega))) ?_ | refine s_val rfl rfl rfl (r_gtr rfl rfl rfl) ?_)
      | (refine s_k 25 rfl ?_; first | refine s_val rfl rfl rfl (r_ixN tb rfl rfl rfl rfl (by omega)) ?_ | refine s_val rfl rfl rfl (r_ixA tb rfl rfl rfl rfl (by omega) (by omega)) ?_ | refine s_val rfl rfl rfl (r_ixO tb rfl rfl rfl rfl (by omega)) ?_)
      | (refine s_k 4 rfl ?_; first | refine s_boxA rfl rfl rfl rfl rfl fun blk => ?_ | refine s_box1 rfl rfl rfl rfl rfl rfl fun blk => ?_)
      | (refine s_k 9 rfl ?_; (first | refine s_st1 tb rfl rfl rfl rfl rfl rfl rfl rfl ?_ | refine s_stA tb rfl rfl rfl rfl (by first | rfl | assumption | (apply Pv.size; assumption)) rfl rfl ?_); (first | refine' st0 ?qs ?_ | refine' st1 ?qs ?_ | refine' st2 ?qs ?_ | refine' st3 ?qs ?_ | refine' st4 ?qs ?_ | refine' st5 ?qs ?_ | refine' st6 ?qs ?_ | refine' st7 ?qs ?_ | refine' st8 ?qs ?_ | refine' st9 ?qs ?_ | refine' st10 ?qs ?_ | refine' st11 ?qs ?_); (case qs => (first | exact zSet)))
      | (refine s_k 12 rfl ?_; refine s_val rfl rfl rfl (r_nil rfl rfl) ?_)
      | refine s_nil ?_)
      | (refine c_g ?_; first | refine c_seq ?_ | refine c_region ?_ | (refine c_gc ?_; first | refine c_cond1 rfl zTr ?_ | refine c_cond0 rfl zTr ?_ | refine z_condd1 rfl ?_ | refine z_condd0 rfl ?_ | refine z_conddn1 rfl ?_ | refine z_conddn0 rfl ?_ | refine c_condd rfl (fun hc => ?_) (fun hc => ?_) | refine c_conddn rfl (fun hc => ?_) (fun hc => ?_) | refine c_condn rfl (fun hc => ?_) (fun hc => ?_) | refine c_cond rfl (fun hc => ?_) (fun hc => ?_)) | refine c_block ?_ | refine c_skip ?_ | refine c_exit ?_ | refine c_ret ?_)
      | (refine e_g ?_; first | refine e_then ?_ | refine e_blkn ?_ | refine e_thenx ?_ | refine e_thenr ?_ | refine e_blkr ?_ | refine e_blkx ?_ | refine e_blky rfl ?_)
      | (refine e_ret1 (by simp) rfl (re_tmp rfl) fun w hL => NewS.of hA hL m0))
end Go.Proofs.Ytnfdefeafhepkaa
