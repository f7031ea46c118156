/- EncloseCells: the program's and the reference's return the same, for all arguments: no condition. -/
import Derived.Test.YtnafnhpajkhgkaaQE11
import Derived.Test.YtnafnhpajkhgkaaQE13
import Derived.Test.YtnafnhpajkhgkaaQE15
import Derived.Test.YtnafnhpajkhgkaaQE22
import Derived.Test.YtnafnhpajkhgkaaQE31
import Derived.Test.YtnafnhpajkhgkaaQE32
namespace Go.Proofs.Ytnafnhpajkhgkaa
set_option linter.unusedVariables false
set_option linter.unusedSimpArgs false
open Go.RowKit Mem Wk
attribute [local irreducible] Calls Wk.S Wk.C Wk.E Wk.X Wk.T Calm.wpLex CalmB.wpLex opnL
theorem opnL_in {p : Nat → Int} {L : List Sp} : InP (opnL p L) := fun h hm => by
  unfold opnL at hm
  have hc := isH_cells (allSd_isH (List.mem_filter.1 hm).1)
  have hr := isC_range hc.1
  exact ⟨⟨hr.1, hr.2.1⟩, hr.2.2⟩
theorem opnL_len {p : Nat → Int} (hv : validP p = true) (L : List Sp) : (opnL p L).length ≤ 200 := by
  unfold opnL
  exact Nat.le_trans (List.length_filter_le _ _) (allSd_len hv)
theorem sizeHd_any (A : Option Addr) (n cap : Nat) (w : World) : Calls Try.prog 30 #[.slice A n cap] w fun e w' => e = .returned (.int .i64 (n : Int)) ∧ Below w.heap.size w w' := by
  refine enter1 Try.func30 rfl rfl rfl (Own.start w) ?_
  repeat' (first
    | (refine s_g ?_; first
      | (refine s_k 0 rfl ?_; refine s_val rfl rfl rfl (r_move rfl rfl) ?_)
      | (refine s_k 1 rfl ?_; refine s_val rfl rfl rfl (r_assign rfl rfl) ?_)
      | (refine s_k 36 rfl ?_; refine s_val rfl rfl rfl (r_len tb rfl rfl rfl) ?_)
      | refine s_nil ?_)
    | (refine c_g ?_; first | refine c_seq ?_ | refine c_region ?_ | (refine c_gc ?_; first | refine c_cond1 rfl zTr ?_ | refine c_cond0 rfl zTr ?_ | refine z_condd1 rfl ?_ | refine z_condd0 rfl ?_ | refine z_conddn1 rfl ?_ | refine z_conddn0 rfl ?_ | refine c_condd rfl (fun hc => ?_) (fun hc => ?_) | refine c_conddn rfl (fun hc => ?_) (fun hc => ?_) | refine c_condn rfl (fun hc => ?_) (fun hc => ?_) | refine c_cond rfl (fun hc => ?_) (fun hc => ?_)) | refine c_block ?_ | refine c_skip ?_ | refine c_exit ?_ | refine c_ret ?_)
    | (refine e_g ?_; first | refine e_then ?_ | refine e_blkn ?_ | refine e_thenx ?_ | refine e_thenr ?_ | refine e_blkr ?_ | refine e_blkx ?_ | refine e_blky rfl ?_)
    | (refine e_ret1 (by simp) rfl (re_tmp rfl) fun w hL => ⟨rfl, hL.toBelow⟩))
theorem cellC_allE {p : Nat → Int} {l : List Sp} (h : cellC p l = 0) : validP p = true ∧ ∀ c ∈ l, isC (p 0) (p 1) c.x c.y = true := cellC_0 h
set_option maxRecDepth 100000 in
set_option maxHeartbeats 800000 in
theorem specOpenSides_ok (p : Nat → Int) (cs : Array Value) (L : List Sp) (g n cap : Nat) (cur : Array Value) (w : World) (hp : Pv p cs) (hc : cellC p L = 0) (hA : Ap 2 n cap cur (flS L)) (hg : w.heap[g]? = some (.cells cur 52 (0, 0))) (hn : L.length ≤ 1048576) :
    Calls Try.prog 23 #[.agg cs, .slice (some ⟨g, 0, none⟩) n cap] w (NewS2 66 3 (flH (opnL p L)) 0 w) := by
  obtain rfl := hA.cnt
  have hsz := hp.size
  obtain ⟨hv, hcs⟩ := cellC_0 hc
  have hin : ∀ s ∈ L, inR s := fun s h => isC_range (hcs s h)
  have hall := fun T gp w hg (hg2 : w.heap[g]? = some (.cells cur 52 (0, 0))) => l01All_any p cs T gp L (some ⟨g, 0, none⟩) cap w hp hg (hA.sl hg2).2 hn fun c hc => inR_ok (hin c hc)
  rw [hc] at hall
  have hop := fun T T' gp gm w hg hm => l03Open_any p cs (mskF L) T T' gp gm w hp hg hm hv
  rw [opF_list hin] at hop
  have hms := fun w (hg2 : w.heap[g]? = some (.cells cur 52 (0, 0))) => l01Mask_any L _ g cap cur w hA hg2 hin
  generalize opnL p L = R at *
  have hgs : (gbA (mskF L)).size = 100 := (gbA_ok _).size
  have hgm := gbA_ok (mskF L)
  generalize gbA (mskF L) = gm at *
  refine enter2 Try.func23 rfl rfl rfl (Own.start w) ?_
  repeat' (first
    | (refine s_g ?_; first
      | (refine s_k 0 rfl ?_; refine s_val rfl rfl rfl (r_move rfl rfl) ?_)
      | (refine s_k 1 rfl ?_; refine s_val rfl rfl rfl (r_assign rfl rfl) ?_)
      | (refine s_k 13 rfl ?_; refine s_val rfl rfl rfl (r_neq rfl rfl rfl) ?_)
      | (refine s_k 35 rfl ?_; first | (refine s_call Try.func55 (by kernel_rfl) rfl rfl rfl rfl rfl rfl (fun w hL => hall _ _ w (hL.at_ m0) (Kn.old hL hg (by simp))) ?_) | (refine s_call Try.func56 (by kernel_rfl) rfl rfl rfl rfl rfl rfl (fun w hL => hms w (Kn.old hL hg (by simp))) ?_) | (refine s_callN Try.func57 (by kernel_rfl) rfl rfl rfl rfl rfl rfl (fun w hL => hop _ _ _ _ w (hL.at_ m1) (hL.at_ m0)) fun gh kh caph curh hAh => ?_))
      | (refine s_k 4 rfl ?_; first | refine s_boxA rfl rfl rfl rfl rfl fun blk => ?_ | refine s_box1 rfl rfl rfl rfl rfl rfl fun blk => ?_)
      | (refine s_k 9 rfl ?_; (first | refine s_st1 tb rfl rfl rfl rfl rfl rfl rfl rfl ?_ | refine s_stA tb rfl rfl rfl rfl (by first | rfl | assumption | (apply Pv.size; assumption)) rfl rfl ?_); (first | refine' st0 ?qs ?_ | refine' st1 ?qs ?_ | refine' st2 ?qs ?_ | refine' st3 ?qs ?_ | refine' st4 ?qs ?_ | refine' st5 ?qs ?_ | refine' st6 ?qs ?_ | refine' st7 ?qs ?_ | refine' st8 ?qs ?_ | refine' st9 ?qs ?_ | refine' st10 ?qs ?_ | refine' st11 ?qs ?_); (case qs => (first | exact setB hgm zFl_ok.size | exact zSet)))
      | (refine s_k 3 rfl ?_; refine s_allocA (t := 90) rfl zF1010 rfl rfl rfl fun blk => ?_)
      | refine s_nil ?_)
    | (refine c_g ?_; first | refine c_seq ?_ | refine c_region ?_ | (refine c_gc ?_; first | refine c_cond1 rfl zTr ?_ | refine c_cond0 rfl zTr ?_ | refine z_condd1 rfl ?_ | refine z_condd0 rfl ?_ | refine z_conddn1 rfl ?_ | refine z_conddn0 rfl ?_ | refine c_condd rfl (fun hc => ?_) (fun hc => ?_) | refine c_conddn rfl (fun hc => ?_) (fun hc => ?_) | refine c_condn rfl (fun hc => ?_) (fun hc => ?_) | refine c_cond rfl (fun hc => ?_) (fun hc => ?_)) | refine c_block ?_ | refine c_skip ?_ | refine c_exit ?_ | refine c_ret ?_)
    | (refine e_g ?_; first | refine e_then ?_ | refine e_blkn ?_ | refine e_thenx ?_ | refine e_thenr ?_ | refine e_blkr ?_ | refine e_blkx ?_ | refine e_blky rfl ?_)
    | (refine e_ret2 (by simp) rfl (re_tmp rfl) (re_tmp rfl) fun w hL => NewS2.of hAh hL m0))
set_option maxRecDepth 100000 in
set_option maxHeartbeats 800000 in
theorem specOpenSides_no (p : Nat → Int) (cs : Array Value) (L : List Sp) (g n cap : Nat) (cur : Array Value) (w : World) (hp : Pv p cs) (hc : cellC p L ≠ 0) (hA : Ap 2 n cap cur (flS L)) (hg : w.heap[g]? = some (.cells cur 52 (0, 0))) (hn : L.length ≤ 1048576) (hok : ∀ c ∈ L, c.ok) :
    Calls Try.prog 23 #[.agg cs, .slice (some ⟨g, 0, none⟩) n cap] w (NewS2 66 3 [] (cellC p L) w) := by
  obtain rfl := hA.cnt
  have hsz := hp.size
  have hall := fun T gp w hg (hg2 : w.heap[g]? = some (.cells cur 52 (0, 0))) => l01All_any p cs T gp L (some ⟨g, 0, none⟩) cap w hp hg (hA.sl hg2).2 hn hok
  generalize cellC p L = c at *
  refine enter2 Try.func23 rfl rfl rfl (Own.start w) ?_
  repeat' (first
    | (refine s_g ?_; first
      | (refine s_k 0 rfl ?_; refine s_val rfl rfl rfl (r_move rfl rfl) ?_)
      | (refine s_k 1 rfl ?_; refine s_val rfl rfl rfl (r_assign rfl rfl) ?_)
      | (refine s_k 13 rfl ?_; refine s_val rfl rfl rfl (r_neq rfl rfl rfl) ?_)
      | (refine s_k 35 rfl ?_; (refine s_call Try.func55 (by kernel_rfl) rfl rfl rfl rfl rfl rfl (fun w hL => hall _ _ w (hL.at_ m0) (Kn.old hL hg (by simp))) ?_))
      | (refine s_k 4 rfl ?_; first | refine s_boxA rfl rfl rfl rfl rfl fun blk => ?_ | refine s_box1 rfl rfl rfl rfl rfl rfl fun blk => ?_)
      | (refine s_k 9 rfl ?_; (first | refine s_st1 tb rfl rfl rfl rfl rfl rfl rfl rfl ?_ | refine s_stA tb rfl rfl rfl rfl (by first | rfl | assumption | (apply Pv.size; assumption)) rfl rfl ?_); (first | refine' st0 ?qs ?_ | refine' st1 ?qs ?_ | refine' st2 ?qs ?_ | refine' st3 ?qs ?_ | refine' st4 ?qs ?_ | refine' st5 ?qs ?_ | refine' st6 ?qs ?_ | refine' st7 ?qs ?_ | refine' st8 ?qs ?_ | refine' st9 ?qs ?_ | refine' st10 ?qs ?_ | refine' st11 ?qs ?_); (case qs => (first | exact zSet)))
      | (refine s_k 6 rfl ?_; refine s_bsl rfl rfl (fun w => slHurdle0 w) rfl rfl rfl fun blk => ?_)
      | refine s_nil ?_)
    | (refine c_g ?_; first | refine c_seq ?_ | refine c_region ?_ | (refine c_gc ?_; first | refine c_cond1 rfl zTr ?_ | refine c_cond0 rfl zTr ?_ | refine z_condd1 rfl ?_ | refine z_condd0 rfl ?_ | refine z_conddn1 rfl ?_ | refine z_conddn0 rfl ?_ | refine c_condd rfl (fun hc => ?_) (fun hc => ?_) | refine c_conddn rfl (fun hc => ?_) (fun hc => ?_) | refine c_condn rfl (fun hc => ?_) (fun hc => ?_) | refine c_cond rfl (fun hc => ?_) (fun hc => ?_)) | refine c_block ?_ | refine c_skip ?_ | refine c_exit ?_ | refine c_ret ?_)
    | (refine e_g ?_; first | refine e_then ?_ | refine e_blkn ?_ | refine e_thenx ?_ | refine e_thenr ?_ | refine e_blkr ?_ | refine e_blkx ?_ | refine e_blky rfl ?_)
    | (refine e_ret2 (by simp) rfl (re_tmp rfl) (re_tmp rfl) fun w hL => NewS2.of (Ap.nil 3) hL m0))
set_option maxRecDepth 100000 in
set_option maxHeartbeats 800000 in
theorem specEnc_ok (p : Nat → Int) (cs c' : Array Value) (L : List Sp) (g n cap : Nat) (cur : Array Value) (w : World) (hp : Pv p cs) (hc : cellC p L = 0) (hA : Ap 2 n cap cur (flS L)) (hg : w.heap[g]? = some (.cells cur 52 (0, 0))) (hn : L.length ≤ 1048576) (hc' : Pv (foldP p (opnL p L) true) c') :
    Calls Try.prog 7 #[.agg cs, .slice (some ⟨g, 0, none⟩) n cap] w fun e w' => e = .returned (.tuple #[.agg c', .int .i64 ((opnL p L).length : Int), .int .i64 0]) ∧ Below w.heap.size w w' := by
  have hsz := hp.size
  have hop := fun w hg => specOpenSides_ok p cs L g n cap cur w hp hc hA hg hn
  have hin := opnL_in (p := p) (L := L)
  have hln := opnL_len (cellC_0 hc).1 L
  generalize opnL p L = R at *
  have hmx : R.length ≤ maxLen := by unfold maxLen; omega
  refine enter2 Try.func7 rfl rfl rfl (Own.start w) ?_
  repeat' (first
    | (refine s_g ?_; first
      | (refine s_k 0 rfl ?_; refine s_val rfl rfl rfl (r_move rfl rfl) ?_)
      | (refine s_k 8 rfl ?_; first | (refine' s_val rfl rfl rfl (r_ldv rfl rfl ?qm ?qv) ?_; (case qm => (exact zMm)); (case qv => (exact zLe))) | (refine' s_val rfl rfl rfl (r_ldo rfl rfl ?qw (by simp) ?qv) ?_; (case qw => assumption); (case qv => (exact zLe))))
      | (refine s_k 1 rfl ?_; refine s_val rfl rfl rfl (r_assign rfl rfl) ?_)
      | (refine s_k 13 rfl ?_; refine s_val rfl rfl rfl (r_neq rfl rfl rfl) ?_)
      | (refine s_k 35 rfl ?_; first | (refine s_call Try.func24 (by kernel_rfl) rfl rfl rfl rfl rfl rfl (fun w hL => l03Put_any p cs c' R true _ _ w hp (hAh.slH (hL.at_ m0)).2 hmx hin hc') ?_) | (refine s_callN2 Try.func23 (by kernel_rfl) rfl rfl rfl rfl rfl rfl (fun w hL => hop w (Kn.old hL hg (by simp))) fun gh kh caph curh hAh => ?_; obtain rfl : kh = R.length := by simpa using hAh.count (lenHd R) (by omega)))
      | (refine s_k 4 rfl ?_; first | refine s_boxA rfl rfl rfl rfl rfl fun blk => ?_ | refine s_box1 rfl rfl rfl rfl rfl rfl fun blk => ?_)
      | (refine s_k 9 rfl ?_; (first | refine s_st1 tb rfl rfl rfl rfl rfl rfl rfl rfl ?_ | refine s_stA tb rfl rfl rfl rfl (by first | rfl | assumption | (apply Pv.size; assumption)) rfl rfl ?_); (first | refine' st0 ?qs ?_ | refine' st1 ?qs ?_ | refine' st2 ?qs ?_ | refine' st3 ?qs ?_ | refine' st4 ?qs ?_ | refine' st5 ?qs ?_ | refine' st6 ?qs ?_ | refine' st7 ?qs ?_ | refine' st8 ?qs ?_ | refine' st9 ?qs ?_ | refine' st10 ?qs ?_ | refine' st11 ?qs ?_); (case qs => (first | exact setP hc' (by first | rfl | assumption) | exact zSet)))
      | (refine s_k 3 rfl ?_; refine s_allocA (t := 32) rfl zImplPas rfl rfl rfl fun blk => ?_)
      | (refine s_k 36 rfl ?_; refine s_val rfl rfl rfl (r_len tb rfl rfl rfl) ?_)
      | (refine s_k 34 rfl ?_; refine s_val rfl rfl rfl (r_extractL rfl rfl rfl) ?_)
      | refine s_nil ?_)
    | (refine c_g ?_; first | refine c_seq ?_ | refine c_region ?_ | (refine c_gc ?_; first | refine c_cond1 rfl zTr ?_ | refine c_cond0 rfl zTr ?_ | refine z_condd1 rfl ?_ | refine z_condd0 rfl ?_ | refine z_conddn1 rfl ?_ | refine z_conddn0 rfl ?_ | refine c_condd rfl (fun hc => ?_) (fun hc => ?_) | refine c_conddn rfl (fun hc => ?_) (fun hc => ?_) | refine c_condn rfl (fun hc => ?_) (fun hc => ?_) | refine c_cond rfl (fun hc => ?_) (fun hc => ?_)) | refine c_block ?_ | refine c_skip ?_ | refine c_exit ?_ | refine c_ret ?_)
    | (refine e_g ?_; first | refine e_then ?_ | refine e_blkn ?_ | refine e_thenx ?_ | refine e_thenr ?_ | refine e_blkr ?_ | refine e_blkx ?_ | refine e_blky rfl ?_)
    | (refine e_ret3 (by simp) rfl (re_cell tb rfl m1 rfl (by first | rfl | assumption | (apply Pv.size; assumption))) (re_tmp rfl) (re_tmp rfl) fun w hL => ⟨rfl, hL.toBelow⟩))
set_option maxRecDepth 100000 in
set_option maxHeartbeats 800000 in
theorem specEnc_no (p : Nat → Int) (cs : Array Value) (L : List Sp) (g n cap : Nat) (cur : Array Value) (w : World) (hp : Pv p cs) (hc : cellC p L ≠ 0) (hA : Ap 2 n cap cur (flS L)) (hg : w.heap[g]? = some (.cells cur 52 (0, 0))) (hn : L.length ≤ 1048576) (hok : ∀ c ∈ L, c.ok) :
    Calls Try.prog 7 #[.agg cs, .slice (some ⟨g, 0, none⟩) n cap] w fun e w' => e = .returned (.tuple #[.agg zP, .int .i64 0, .int .i64 (cellC p L)]) ∧ Below w.heap.size w w' := by
  have hsz := hp.size
  have hop := fun w hg => specOpenSides_no p cs L g n cap cur w hp hc hA hg hn hok
  generalize cellC p L = c at *
  refine enter2 Try.func7 rfl rfl rfl (Own.start w) ?_
  repeat' (first
    | (refine s_g ?_; first
      | (refine s_k 0 rfl ?_; refine s_val rfl rfl rfl (r_move rfl rfl) ?_)
      | (refine s_k 8 rfl ?_; first | (refine' s_val rfl rfl rfl (r_ldv rfl rfl ?qm ?qv) ?_; (case qm => (exact zMm)); (case qv => (exact zLe))) | (refine' s_val rfl rfl rfl (r_ldo rfl rfl ?qw (by simp) ?qv) ?_; (case qw => assumption); (case qv => (exact zLe))))
      | (refine s_k 1 rfl ?_; refine s_val rfl rfl rfl (r_assign rfl rfl) ?_)
      | (refine s_k 13 rfl ?_; refine s_val rfl rfl rfl (r_neq rfl rfl rfl) ?_)
      | (refine s_k 35 rfl ?_; (refine s_callN2 Try.func23 (by kernel_rfl) rfl rfl rfl rfl rfl rfl (fun w hL => hop w (Kn.old hL hg (by simp))) fun gh kh caph curh hAh => ?_))
      | (refine s_k 4 rfl ?_; first | refine s_boxA rfl rfl rfl rfl rfl fun blk => ?_ | refine s_box1 rfl rfl rfl rfl rfl rfl fun blk => ?_)
      | (refine s_k 9 rfl ?_; (first | refine s_st1 tb rfl rfl rfl rfl rfl rfl rfl rfl ?_ | refine s_stA tb rfl rfl rfl rfl (by first | rfl | assumption | (apply Pv.size; assumption)) rfl rfl ?_); (first | refine' st0 ?qs ?_ | refine' st1 ?qs ?_ | refine' st2 ?qs ?_ | refine' st3 ?qs ?_ | refine' st4 ?qs ?_ | refine' st5 ?qs ?_ | refine' st6 ?qs ?_ | refine' st7 ?qs ?_ | refine' st8 ?qs ?_ | refine' st9 ?qs ?_ | refine' st10 ?qs ?_ | refine' st11 ?qs ?_); (case qs => (first | exact setP zP_pv (by first | rfl | assumption) | exact zSet)))
      | (refine s_k 3 rfl ?_; refine s_allocA (t := 32) rfl zImplPas rfl rfl rfl fun blk => ?_)
      | (refine s_k 36 rfl ?_; refine s_val rfl rfl rfl (r_len tb rfl rfl rfl) ?_)
      | (refine s_k 34 rfl ?_; refine s_val rfl rfl rfl (r_extractL rfl rfl rfl) ?_)
      | (refine s_k 5 rfl ?_; refine s_val rfl rfl rfl (r_build rfl rfl (fun w => bPas0 w)) ?_)
      | refine s_nil ?_)
    | (refine c_g ?_; first | refine c_seq ?_ | refine c_region ?_ | (refine c_gc ?_; first | refine c_cond1 rfl zTr ?_ | refine c_cond0 rfl zTr ?_ | refine z_condd1 rfl ?_ | refine z_condd0 rfl ?_ | refine z_conddn1 rfl ?_ | refine z_conddn0 rfl ?_ | refine c_condd rfl (fun hc => ?_) (fun hc => ?_) | refine c_conddn rfl (fun hc => ?_) (fun hc => ?_) | refine c_condn rfl (fun hc => ?_) (fun hc => ?_) | refine c_cond rfl (fun hc => ?_) (fun hc => ?_)) | refine c_block ?_ | refine c_skip ?_ | refine c_exit ?_ | refine c_ret ?_)
    | (refine e_g ?_; first | refine e_then ?_ | refine e_blkn ?_ | refine e_thenx ?_ | refine e_thenr ?_ | refine e_blkr ?_ | refine e_blkx ?_ | refine e_blky rfl ?_)
    | (refine e_ret3 (by simp) rfl (re_cell tb rfl m1 rfl (by first | rfl | assumption | (apply Pv.size; assumption))) (re_tmp rfl) (re_tmp rfl) fun w hL => ⟨rfl, hL.toBelow⟩))
set_option maxRecDepth 100000 in
set_option maxHeartbeats 800000 in
theorem implEnc_ok (p : Nat → Int) (cs c' : Array Value) (L : List Sp) (g n cap : Nat) (cur : Array Value) (w : World) (hp : Pv p cs) (hc : cellC p L = 0) (hA : Ap 2 n cap cur (flS L)) (hg : w.heap[g]? = some (.cells cur 52 (0, 0))) (hn : L.length ≤ 1048576) (hc' : Pv (foldP p (opnL p L) true) c') :
    Calls Try.prog 10 #[.agg cs, .slice (some ⟨g, 0, none⟩) n cap] w fun e w' => e = .returned (.tuple #[.agg c', .int .i64 ((opnL p L).length : Int), .int .i64 0]) ∧ Below w.heap.size w w' := by
  obtain rfl := hA.cnt
  have hsz := hp.size
  obtain ⟨hv, hcs⟩ := cellC_0 hc
  have hcode := fun w (hU : Sl w 2 (.slice (some ⟨g, 0, none⟩) L.length cap) (L.map Sp.cells)) => cellCode_any p cs _ L w hp hU fun c hc => inR_ok (isC_range (hcs c hc))
  rw [hc] at hcode
  have hop := fun w (hg : w.heap[g]? = some (.cells cur 52 (0, 0))) => openSides_any p cs L g 0 cap w hp hv (hA.sl hg).2 hn hcs
  have hin := opnL_in (p := p) (L := L)
  have hln := opnL_len hv L
  generalize opnL p L = R at *
  have hmx : R.length ≤ maxLen := by unfold maxLen; omega
  refine enter2 Try.func10 rfl rfl rfl (Own.start w) ?_
  repeat' (first
    | (refine s_g ?_; first
      | (refine s_k 0 rfl ?_; refine s_val rfl rfl rfl (r_move rfl rfl) ?_)
      | (refine s_k 8 rfl ?_; first | (refine' s_val rfl rfl rfl (r_ldv rfl rfl ?qm ?qv) ?_; (case qm => (exact zMm)); (case qv => (exact zLe))) | (refine' s_val rfl rfl rfl (r_ldo rfl rfl ?qw (by simp) ?qv) ?_; (case qw => assumption); (case qv => (exact zLe))))
      | (refine s_k 1 rfl ?_; refine s_val rfl rfl rfl (r_assign rfl rfl) ?_)
      | (refine s_k 13 rfl ?_; refine s_val rfl rfl rfl (r_neq rfl rfl rfl) ?_)
      | (refine s_k 35 rfl ?_; first | (refine s_call Try.func27 (by kernel_rfl) rfl rfl rfl rfl rfl rfl (fun w hL => hcode w (hA.toSl (lenSp L) (by omega) (Kn.old hL hg (by simp)))) ?_) | (refine s_call Try.func29 (by kernel_rfl) rfl rfl rfl rfl rfl rfl (fun w hL => with_any p cs c' R true _ _ w hp (hAh.slH (hL.at_ m0)).2 hmx hin hc') ?_) | (refine s_call Try.func30 (by kernel_rfl) rfl rfl rfl rfl rfl rfl (fun w hL => sizeHd_any _ _ _ _) ?_) | (refine s_callN Try.func28 (by kernel_rfl) rfl rfl rfl rfl rfl rfl (fun w hL => hop w (Kn.old hL hg (by simp))) fun gh kh caph curh hAh => ?_; obtain rfl : kh = R.length := by simpa using hAh.count (lenHd R) (by omega)))
      | (refine s_k 4 rfl ?_; first | refine s_boxA rfl rfl rfl rfl rfl fun blk => ?_ | refine s_box1 rfl rfl rfl rfl rfl rfl fun blk => ?_)
      | (refine s_k 9 rfl ?_; (first | refine s_st1 tb rfl rfl rfl rfl rfl rfl rfl rfl ?_ | refine s_stA tb rfl rfl rfl rfl (by first | rfl | assumption | (apply Pv.size; assumption)) rfl rfl ?_); (first | refine' st0 ?qs ?_ | refine' st1 ?qs ?_ | refine' st2 ?qs ?_ | refine' st3 ?qs ?_ | refine' st4 ?qs ?_ | refine' st5 ?qs ?_ | refine' st6 ?qs ?_ | refine' st7 ?qs ?_ | refine' st8 ?qs ?_ | refine' st9 ?qs ?_ | refine' st10 ?qs ?_ | refine' st11 ?qs ?_); (case qs => (first | exact setP hc' (by first | rfl | assumption) | exact zSet)))
      | (refine s_k 3 rfl ?_; refine s_allocA (t := 32) rfl zImplPas rfl rfl rfl fun blk => ?_)
      | refine s_nil ?_)
    | (refine c_g ?_; first | refine c_seq ?_ | refine c_region ?_ | (refine c_gc ?_; first | refine c_cond1 rfl zTr ?_ | refine c_cond0 rfl zTr ?_ | refine z_condd1 rfl ?_ | refine z_condd0 rfl ?_ | refine z_conddn1 rfl ?_ | refine z_conddn0 rfl ?_ | refine c_condd rfl (fun hc => ?_) (fun hc => ?_) | refine c_conddn rfl (fun hc => ?_) (fun hc => ?_) | refine c_condn rfl (fun hc => ?_) (fun hc => ?_) | refine c_cond rfl (fun hc => ?_) (fun hc => ?_)) | refine c_block ?_ | refine c_skip ?_ | refine c_exit ?_ | refine c_ret ?_)
    | (refine e_g ?_; first | refine e_then ?_ | refine e_blkn ?_ | refine e_thenx ?_ | refine e_thenr ?_ | refine e_blkr ?_ | refine e_blkx ?_ | refine e_blky rfl ?_)
    | (refine e_ret3 (by simp) rfl (re_cell tb rfl m1 rfl (by first | rfl | assumption | (apply Pv.size; assumption))) (re_tmp rfl) (re_tmp rfl) fun w hL => ⟨rfl, hL.toBelow⟩))
set_option maxRecDepth 100000 in
set_option maxHeartbeats 800000 in
theorem implEnc_no (p : Nat → Int) (cs : Array Value) (L : List Sp) (g n cap : Nat) (cur : Array Value) (w : World) (hp : Pv p cs) (hc : cellC p L ≠ 0) (hA : Ap 2 n cap cur (flS L)) (hg : w.heap[g]? = some (.cells cur 52 (0, 0))) (hn : L.length ≤ 1048576) (hok : ∀ c ∈ L, c.ok) :
    Calls Try.prog 10 #[.agg cs, .slice (some ⟨g, 0, none⟩) n cap] w fun e w' => e = .returned (.tuple #[.agg zP, .int .i64 0, .int .i64 (cellC p L)]) ∧ Below w.heap.size w w' := by
  obtain rfl := hA.cnt
  have hsz := hp.size
  have hcode := fun w (hU : Sl w 2 (.slice (some ⟨g, 0, none⟩) L.length cap) (L.map Sp.cells)) => cellCode_any p cs _ L w hp hU hok
  generalize cellC p L = c at *
  refine enter2 Try.func10 rfl rfl rfl (Own.start w) ?_
  repeat' (first
    | (refine s_g ?_; first
      | (refine s_k 0 rfl ?_; refine s_val rfl rfl rfl (r_move rfl rfl) ?_)
      | (refine s_k 8 rfl ?_; first | (refine' s_val rfl rfl rfl (r_ldv rfl rfl ?qm ?qv) ?_; (case qm => (exact zMm)); (case qv => (exact zLe))) | (refine' s_val rfl rfl rfl (r_ldo rfl rfl ?qw (by simp) ?qv) ?_; (case qw => assumption); (case qv => (exact zLe))))
      | (refine s_k 1 rfl ?_; refine s_val rfl rfl rfl (r_assign rfl rfl) ?_)
      | (refine s_k 13 rfl ?_; refine s_val rfl rfl rfl (r_neq rfl rfl rfl) ?_)
      | (refine s_k 35 rfl ?_; (refine s_call Try.func27 (by kernel_rfl) rfl rfl rfl rfl rfl rfl (fun w hL => hcode w (hA.toSl (lenSp L) (by omega) (Kn.old hL hg (by simp)))) ?_))
      | (refine s_k 4 rfl ?_; first | refine s_boxA rfl rfl rfl rfl rfl fun blk => ?_ | refine s_box1 rfl rfl rfl rfl rfl rfl fun blk => ?_)
      | (refine s_k 9 rfl ?_; (first | refine s_st1 tb rfl rfl rfl rfl rfl rfl rfl rfl ?_ | refine s_stA tb rfl rfl rfl rfl (by first | rfl | assumption | (apply Pv.size; assumption)) rfl rfl ?_); (first | refine' st0 ?qs ?_ | refine' st1 ?qs ?_ | refine' st2 ?qs ?_ | refine' st3 ?qs ?_ | refine' st4 ?qs ?_ | refine' st5 ?qs ?_ | refine' st6 ?qs ?_ | refine' st7 ?qs ?_ | refine' st8 ?qs ?_ | refine' st9 ?qs ?_ | refine' st10 ?qs ?_ | refine' st11 ?qs ?_); (case qs => (first | exact setP zP_pv (by first | rfl | assumption) | exact zSet)))
      | (refine s_k 3 rfl ?_; refine s_allocA (t := 32) rfl zImplPas rfl rfl rfl fun blk => ?_)
      | (refine s_k 5 rfl ?_; refine s_val rfl rfl rfl (r_build rfl rfl (fun w => bPas0 w)) ?_)
      | refine s_nil ?_)
    | (refine c_g ?_; first | refine c_seq ?_ | refine c_region ?_ | (refine c_gc ?_; first | refine c_cond1 rfl zTr ?_ | refine c_cond0 rfl zTr ?_ | refine z_condd1 rfl ?_ | refine z_condd0 rfl ?_ | refine z_conddn1 rfl ?_ | refine z_conddn0 rfl ?_ | refine c_condd rfl (fun hc => ?_) (fun hc => ?_) | refine c_conddn rfl (fun hc => ?_) (fun hc => ?_) | refine c_condn rfl (fun hc => ?_) (fun hc => ?_) | refine c_cond rfl (fun hc => ?_) (fun hc => ?_)) | refine c_block ?_ | refine c_skip ?_ | refine c_exit ?_ | refine c_ret ?_)
    | (refine e_g ?_; first | refine e_then ?_ | refine e_blkn ?_ | refine e_thenx ?_ | refine e_thenr ?_ | refine e_blkr ?_ | refine e_blkx ?_ | refine e_blky rfl ?_)
    | (refine e_ret3 (by simp) rfl (re_cell tb rfl m0 rfl (by first | rfl | assumption | (apply Pv.size; assumption))) (re_tmp rfl) (re_tmp rfl) fun w hL => ⟨rfl, hL.toBelow⟩))
set_option maxRecDepth 100000 in
set_option maxHeartbeats 1600000 in
theorem FnExactEncloseCells_walk (p0 : Nat → Int) (c0 : Array Value) (v1 : Value) (l1 : List Sp) (w : World) (hp0 : Pv p0 c0) (hl1 : Sl w 2 v1 (l1.map Sp.cells)) (ho1 : ∀ s ∈ l1, s.ok) :
    Calls Try.prog 3 #[.agg c0, v1] w fun e w' => e = .returned (.bool true) ∧ Below w.heap.size w w' := by
  have hsz := hp0.size
  by_cases hn1 : l1.length ≤ 1048576
  case neg =>
    refine enter2 Try.func3 rfl rfl rfl (Own.start w) ?_
    repeat' (first
      | (refine s_g ?_; first
      | (refine s_gd rfl ?_; first | refine s_gd1 rfl rfl zTr ?_ | refine s_gd0 rfl rfl rfl zTr ?_ | refine s_gd00 rfl rfl zTr ?_ | refine s_gp1 rfl rfl rfl (fun hc => ?_) (fun hc => ?_) | refine s_gp0 rfl rfl rfl (fun hc => ?_) (fun hc => ?_) | refine s_gnp1 rfl rfl rfl (fun hc => ?_) (fun hc => ?_) | refine s_gnp0 rfl rfl rfl (fun hc => ?_) (fun hc => ?_) | refine s_gb1 rfl rfl rfl (fun hc => ?_) (fun hc => ?_) | refine s_gb0 rfl rfl rfl (fun hc => ?_) (fun hc => ?_) | refine s_gnb1 rfl rfl rfl (fun hc => ?_) (fun hc => ?_) | refine s_gnb0 rfl rfl rfl (fun hc => ?_) (fun hc => ?_))
      | (refine s_k 0 rfl ?_; refine s_val rfl rfl rfl (r_move rfl rfl) ?_)
      | (refine s_k 8 rfl ?_; first | (refine' s_val rfl rfl rfl (r_ldv rfl rfl ?qm ?qv) ?_; (case qm => (exact zMm)); (case qv => (exact zLe))) | (refine' s_val rfl rfl rfl (r_ldo rfl rfl ?qw (by simp) ?qv) ?_; (case qw => assumption); (case qv => (exact zLe))))
      | (refine s_k 1 rfl ?_; refine s_val rfl rfl rfl (r_assign rfl rfl) ?_)
      | (refine s_k 13 rfl ?_; first | refine s_val rfl rfl rfl (r_lss rfl rfl rfl) ?_ | refine s_val rfl rfl rfl (r_neq rfl rfl rfl) ?_)
      | (refine s_k 35 rfl ?_; (refine s_call Try.func6 (by kernel_rfl) rfl rfl rfl rfl rfl rfl (fun w hL => sz_gt (szSpotS_any v1 l1 1048576 _ (hl1.below hL.toBelow) (by decide) (by decide)) hn1) ?_))
      | (refine s_k 14 rfl ?_; refine s_val rfl rfl rfl (r_not rfl rfl) ?_)
      | (refine s_k 2 rfl ?_; first | refine s_val rfl rfl rfl (r_pick1 rfl rfl zTr rfl) ?_ | refine s_val rfl rfl rfl (r_pick0 rfl rfl zTr rfl) ?_)
      | (refine s_k 4 rfl ?_; first | refine s_boxA rfl rfl rfl rfl rfl fun blk => ?_ | refine s_box1 rfl rfl rfl rfl rfl rfl fun blk => ?_)
      | (refine s_k 9 rfl ?_; (first | refine s_st1 tb rfl rfl rfl rfl rfl rfl rfl rfl ?_ | refine s_stA tb rfl rfl rfl rfl (by first | rfl | assumption | (apply Pv.size; assumption)) rfl rfl ?_); (first | refine' st0 ?qs ?_ | refine' st1 ?qs ?_ | refine' st2 ?qs ?_ | refine' st3 ?qs ?_ | refine' st4 ?qs ?_ | refine' st5 ?qs ?_ | refine' st6 ?qs ?_ | refine' st7 ?qs ?_ | refine' st8 ?qs ?_ | refine' st9 ?qs ?_ | refine' st10 ?qs ?_ | refine' st11 ?qs ?_); (case qs => (first | exact zSet)))
      | (refine s_k 34 rfl ?_; refine s_val rfl rfl rfl (r_extractL rfl rfl rfl) ?_)
      | refine s_nil ?_)
      | (refine c_g ?_; first | refine c_seq ?_ | refine c_region ?_ | (refine c_gc ?_; first | refine c_cond1 rfl zTr ?_ | refine c_cond0 rfl zTr ?_ | refine z_condd1 rfl ?_ | refine z_condd0 rfl ?_ | refine z_conddn1 rfl ?_ | refine z_conddn0 rfl ?_ | refine c_condd rfl (fun hc => ?_) (fun hc => ?_) | refine c_conddn rfl (fun hc => ?_) (fun hc => ?_) | refine c_condn rfl (fun hc => ?_) (fun hc => ?_) | refine c_cond rfl (fun hc => ?_) (fun hc => ?_)) | refine c_block ?_ | refine c_skip ?_ | refine c_exit ?_ | refine c_ret ?_)
      | (refine e_g ?_; first | refine e_then ?_ | refine e_blkn ?_ | refine e_thenx ?_ | refine e_thenr ?_ | refine e_blkr ?_ | refine e_blkx ?_ | refine e_blky rfl ?_)
      | (refine e_ret1 (by simp) rfl (re_tmp rfl) fun w hL => ⟨rfl, hL.toBelow⟩))
  case pos =>
    obtain ⟨A1, cap1, rfl, _, _, hS1⟩ := hl1.open
    rw [List.length_map] at hl1 ⊢
    obtain ⟨q', c', n', k', hqc, hspec, himpl⟩ : ∃ (q' : Nat → Int) (c' : Array Value) (n' k' : Int), Pv q' c' ∧ (∀ w g n cap cur, Ap 2 n cap cur (flS l1) → w.heap[g]? = some (.cells cur 52 (0, 0)) → Calls Try.prog 7 #[.agg c0, .slice (some ⟨g, 0, none⟩) n cap] w fun e w' => e = .returned (.tuple #[.agg c', .int .i64 n', .int .i64 k']) ∧ Below w.heap.size w w') ∧ (∀ w g n cap cur, Ap 2 n cap cur (flS l1) → w.heap[g]? = some (.cells cur 52 (0, 0)) → Calls Try.prog 10 #[.agg c0, .slice (some ⟨g, 0, none⟩) n cap] w fun e w' => e = .returned (.tuple #[.agg c', .int .i64 n', .int .i64 k']) ∧ Below w.heap.size w w') := by
      by_cases hc : cellC p0 l1 = 0
      · obtain ⟨c', hc'⟩ := foldP_ex (on := true) hp0 (opnL_in (p := p0) (L := l1))
        exact ⟨_, c', _, 0, hc', fun w g n cap cur hA hg => specEnc_ok p0 c0 c' l1 g n cap cur w hp0 hc hA hg hn1 hc', fun w g n cap cur hA hg => implEnc_ok p0 c0 c' l1 g n cap cur w hp0 hc hA hg hn1 hc'⟩
      · exact ⟨_, zP, 0, cellC p0 l1, zP_pv, fun w g n cap cur hA hg => specEnc_no p0 c0 l1 g n cap cur w hp0 hc hA hg hn1 ho1, fun w g n cap cur hA hg => implEnc_no p0 c0 l1 g n cap cur w hp0 hc hA hg hn1 ho1⟩
    have hcs := hqc.size
    have e1 : n' = n' := rfl
    have e2 : k' = k' := rfl
    refine enter2 Try.func3 rfl rfl rfl (Own.start w) ?_
    repeat' (first
      | (refine s_g ?_; first
      | (refine s_gd rfl ?_; first | refine s_gd1 rfl rfl zTr ?_ | refine s_gd0 rfl rfl rfl zTr ?_ | refine s_gd00 rfl rfl zTr ?_ | refine s_gp1 rfl rfl rfl (fun hc => ?_) (fun hc => ?_) | refine s_gp0 rfl rfl rfl (fun hc => ?_) (fun hc => ?_) | refine s_gnp1 rfl rfl rfl (fun hc => ?_) (fun hc => ?_) | refine s_gnp0 rfl rfl rfl (fun hc => ?_) (fun hc => ?_) | refine s_gb1 rfl rfl rfl (fun hc => ?_) (fun hc => ?_) | refine s_gb0 rfl rfl rfl (fun hc => ?_) (fun hc => ?_) | refine s_gnb1 rfl rfl rfl (fun hc => ?_) (fun hc => ?_) | refine s_gnb0 rfl rfl rfl (fun hc => ?_) (fun hc => ?_))
      | (refine s_k 0 rfl ?_; refine s_val rfl rfl rfl (r_move rfl rfl) ?_)
      | (refine s_k 8 rfl ?_; first | (refine' s_val rfl rfl rfl (r_ldv rfl rfl ?qm ?qv) ?_; (case qm => (exact zMm)); (case qv => (exact zLe))) | (refine' s_val rfl rfl rfl (r_ldo rfl rfl ?qw (by simp) ?qv) ?_; (case qw => assumption); (case qv => (exact zLe))))
      | (refine s_k 1 rfl ?_; refine s_val rfl rfl rfl (r_assign rfl rfl) ?_)
      | (refine s_k 13 rfl ?_; first | refine s_val rfl rfl rfl (r_lss rfl rfl rfl) ?_ | refine s_val rfl rfl rfl (r_neq rfl rfl rfl) ?_)
      | (refine s_k 35 rfl ?_; first | (refine s_call Try.func6 (by kernel_rfl) rfl rfl rfl rfl rfl rfl (fun w hL => sz_le (szSpotS_any _ l1 1048576 _ (hl1.below hL.toBelow) (by decide) (by decide)) hn1) ?_) | (refine s_call Try.func8 (by kernel_rfl) rfl rfl rfl rfl rfl rfl (fun w hL => toPasture_any p0 c0 _ hp0) ?_) | (refine s_call Try.func7 (by kernel_rfl) rfl rfl rfl rfl rfl rfl (fun w hL => hspec w _ _ _ _ hAq (hL.at_ m0)) ?_) | (refine s_call Try.func10 (by kernel_rfl) rfl rfl rfl rfl rfl rfl (fun w hL => himpl w _ _ _ _ hAq (hL.at_ m0)) ?_) | (refine s_call Try.func11 (by kernel_rfl) rfl rfl rfl rfl rfl rfl (fun w hL => eqPasture_same _ c' _ hqc) ?_) | (refine s_call Try.func12 (by kernel_rfl) rfl rfl rfl rfl rfl rfl (fun w hL => eqSpotS_same _ _ l1 _ (hAp.toSl (lenSp l1) (by omega) (hL.at_ m2)) (hAq.toSl (lenSp l1) (by omega) (hL.at_ m0)) hn1) ?_) | (refine s_callN Try.func9 (by kernel_rfl) rfl rfl rfl rfl rfl rfl (fun w hL => toSpotS_new l1 A1 cap1 w (hS1.at_ hL) hn1) fun g k cap cur hA => ?_; (try have hAp := hAq); have hAq := hA))
      | (refine s_k 14 rfl ?_; refine s_val rfl rfl rfl (r_not rfl rfl) ?_)
      | (refine s_k 2 rfl ?_; first | refine s_val rfl rfl rfl (r_pick1 rfl rfl zTr rfl) ?_ | refine s_val rfl rfl rfl (r_pick0 rfl rfl zTr rfl) ?_)
      | (refine s_k 4 rfl ?_; first | refine s_boxA rfl rfl rfl rfl rfl fun blk => ?_ | refine s_box1 rfl rfl rfl rfl rfl rfl fun blk => ?_)
      | (refine s_k 9 rfl ?_; (first | refine s_st1 tb rfl rfl rfl rfl rfl rfl rfl rfl ?_ | refine s_stA tb rfl rfl rfl rfl (by first | rfl | assumption | (apply Pv.size; assumption)) rfl rfl ?_); (first | refine' st0 ?qs ?_ | refine' st1 ?qs ?_ | refine' st2 ?qs ?_ | refine' st3 ?qs ?_ | refine' st4 ?qs ?_ | refine' st5 ?qs ?_ | refine' st6 ?qs ?_ | refine' st7 ?qs ?_ | refine' st8 ?qs ?_ | refine' st9 ?qs ?_ | refine' st10 ?qs ?_ | refine' st11 ?qs ?_); (case qs => (first | exact setP hqc (by first | rfl | assumption) | exact zSet)))
      | (refine s_k 3 rfl ?_; refine s_allocA (t := 32) rfl zImplPas rfl rfl rfl fun blk => ?_)
      | (refine s_k 34 rfl ?_; refine s_val rfl rfl rfl (r_extractL rfl rfl rfl) ?_)
      | refine s_nil ?_)
      | (refine c_g ?_; first | refine c_seq ?_ | refine c_region ?_ | (refine c_gc ?_; first | refine c_cond1 rfl zTr ?_ | refine c_cond0 rfl zTr ?_ | refine z_condd1 rfl ?_ | refine z_condd0 rfl ?_ | refine z_conddn1 rfl ?_ | refine z_conddn0 rfl ?_ | refine c_condd rfl (fun hc => ?_) (fun hc => ?_) | refine c_conddn rfl (fun hc => ?_) (fun hc => ?_) | refine c_condn rfl (fun hc => ?_) (fun hc => ?_) | refine c_cond rfl (fun hc => ?_) (fun hc => ?_)) | refine c_block ?_ | refine c_skip ?_ | refine c_exit ?_ | refine c_ret ?_)
      | (refine e_g ?_; first | refine e_then ?_ | refine e_blkn ?_ | refine e_thenx ?_ | refine e_thenr ?_ | refine e_blkr ?_ | refine e_blkx ?_ | refine e_blky rfl ?_)
      | (refine e_ret1 (by simp) rfl (re_tmp rfl) fun w hL => ⟨rfl, hL.toBelow⟩))
namespace FnExactEncloseCellsRow
open Go.ChangeShapes Go.WideShapes Go.ChangeAt Go.RowKit
theorem own : ownKnob Try.prog.godebug = none := by kernel_rfl
theorem laidOut : laidOutB Try.prog = true := by kernel_rfl
set_option maxRecDepth 100000 in
set_option maxHeartbeats 1000000 in
theorem lifted (os : Os) (started : os.Started) (H : Type) (enc : TypeId × Value → H) :
    ReturnsInHanded {} Try.checked os 3 .any (Rows.fnExactEncloseCellsSpec.pre6 enc Try.prog Try.f3 Rows.fnExactEncloseCellsRow.domain false) (Rows.fnExactEncloseCellsSpec.post enc Try.prog Try.f3 false true false false) := by
  refine returnsInHanded_of_change (C := Try.checked) own started (by kernel_rfl) Try.func3
    (ChangeSpec.witness6 (enc := enc) (C := Try.checked) false ⟨#[], #[.agg zP, .slice none 0 0], []⟩ 8 (by kernel_rfl) (by kernel_rfl) (by kernel_rfl) (by kernel_rfl)) ?_
  intro W base args ds gs before hval0 hW hcnd _
  have hval : ∀ (j : Nat) t v, Try.f3.params[j]? = some t → args[j]? = some v → Value.okWide Try.prog W .any base t v := hval0
  have hW' := hW
  obtain ⟨p, q, hA0, hV, rfl, hfz, hnd⟩ := hW
  have hA : DataW.TrodAll enc Try.prog W 0 (fun _ => true) true Try.f3.params.toList args.toList ds p := hA0
  rw [Try.params3] at hA hval
  obtain ⟨v0, vs0, d0, ds0, p0, q0, hargs, rfl, rfl, h0, r0⟩ := trodAll_cons hA
  obtain ⟨v1, vs1, d1, ds1, p1, q1, rfl, rfl, rfl, h1, r1⟩ := trodAll_cons r0
  obtain ⟨rfl, rfl, rfl⟩ := trodAll_nil r1
  obtain rfl : args = #[v0, v1] := by cases args; simp_all
  obtain ⟨rfl, rfl⟩ := trodVars_none hV
  have k0 := h0
  have lt0 : ∀ x ∈ p0, x.block < W.heap.size := by obtain ⟨m, hm⟩ := k0; exact DataW.trod_lt m _ _ _ hm
  have k1 := h1
  have lt1 : ∀ x ∈ p1, x.block < W.heap.size := by obtain ⟨m, hm⟩ := k1; exact DataW.trod_lt m _ _ _ hm
  obtain ⟨c0, rfl, hs0, hf0⟩ := open_flat (n := 5) (ks := pasK) (by kernel_rfl) (by kernel_rfl) (by kernel_rfl) (hval 0 _ v0 rfl rfl) h0
  obtain ⟨p0', hp0⟩ := pv_of_flat hs0 hf0
  obtain ⟨xs1, hl1, hf1⟩ := open_flat_slice (n := 5) (ks := spK) Try.underlying30 (by kernel_rfl) (by kernel_rfl) (by decide) (hval 1 _ v1 rfl rfl) h1
  obtain ⟨l1, rfl, ho1⟩ := list_of_cells (f := Sp.cells) (p := Sp.ok) xs1 (fun c hc => by
    obtain ⟨hcl, _⟩ := sl_elem hl1 c hc
    exact sp_of_flat hcl (hf1 c hc))
  clear hA0 hval0
  refine (FnExactEncloseCells_walk p0' c0 v1 l1 W hp0 hl1 ho1).mono fun e W' ⟨he, bel⟩ => ?_
  subst he
  exact ⟨_, rfl, _, _, _, [], _, [], hW', trodAll_mk1 (shut_bool Try.underlying4 _), (trodAll_cons_mk (Below.trod laidOut (by kernel_rfl) (of_decide_eq_true (by kernel_rfl)) k0 bel lt0) (trodAll_cons_mk (Below.trod laidOut (by kernel_rfl) (of_decide_eq_true (by kernel_rfl)) k1 bel lt1) trodAll_mk0)), rfl, bel.frame _, fun h => by cases h⟩
theorem closed : joinedFacts Try.prog 3 Try.f3 Rows.fnExactEncloseCellsSpec Rows.fnExactEncloseCellsRow = true := by
  unfold joinedFacts
  rw [prog_mayEnter, prog_lifts, prog_make]
  show (_ : Bool) = true
  kernel_rfl
theorem over : Rows.fnExactEncloseCellsRow.holds Try.pinned (OpenSpec.ofChange Rows.fnExactEncloseCellsSpec) :=
  OpenClaim.holds_of_wide 3 Try.f3 rfl rfl rfl rfl rfl rfl rfl ⟨rfl, rfl, rfl, rfl, rfl⟩ rfl rfl rfl rfl rfl (by kernel_rfl) Try.func3 closed
    (of_decide_eq_true (by kernel_rfl)) (by unfold Func.isWrapper; first | (rw [if_pos (by decide +kernel)]; kernel_rfl) | (rw [if_neg (by decide +kernel)]; exact ⟨rfl, rfl⟩))
    (fun os started H enc _ => lifted os started H enc)
end FnExactEncloseCellsRow
theorem fnExactEncloseCells_holds : Rows.FnExactEncloseCellsSaid := FnExactEncloseCellsRow.over
#print axioms fnExactEncloseCells_holds
end Go.Proofs.Ytnafnhpajkhgkaa
