import Derived.Test.YtnafnhpajkhgkaaQY09
import Derived.Test.YtnafnhpajkhgkaaQY11
import Derived.Test.YtnafnhpajkhgkaaQY12
import Derived.Test.YtnafnhpajkhgkaaQY14
import Derived.Test.YtnafnhpajkhgkaaQY19
import Derived.Test.YtnafnhpajkhgkaaQY22
import Derived.Test.YtnafnhpajkhgkaaQY43
import Derived.Test.YtnafnhpajkhgkaaQY44
/- Cells in order, each once: the program's. No condition but a length of at most 2^20. -/
namespace Go.Proofs.Ytnafnhpajkhgkaa
set_option linter.unusedVariables false
set_option linter.unusedSimpArgs false
open Go.RowKit Mem Wk Go.Sort
attribute [local irreducible] Calls Wk.S Wk.C Wk.E Wk.X Wk.T Wk.andV Wk.shrV Calm.wpLex cpF ordL
def SrtS (L : List Sp) (n cap : Nat) (cs : Array Value) : Prop := ∃ M : List Sp, M.Perm L ∧ (M.Pairwise fun a b => ltOf cmS b a = false) ∧ Ap 2 n cap cs (flS M)
theorem sortS_m (L : List Sp) (g n cap : Nat) (cur : Array Value) (w : World) (hA : Ap 2 n cap cur (flS L)) (hg : w.heap[g]? = some (.cells cur 52 (0, 0))) (hn : L.length ≤ 1048576) (hin : ∀ s ∈ L, inR s) :
    Calls Try.prog 81 #[.slice (some ⟨g, 0, none⟩) n cap, .func (.func 54) #[] #[]] w fun e w' => e = .returned (.tuple #[]) ∧ ∃ cs', SrtS L n cap cs' ∧ Upd w w' g 52 cs' :=
  (sortS_any L g n cap cur w hA hg hn hin).mono fun e w' ⟨he, M, cs', h1, h2, h3, h4⟩ => ⟨he, cs', ⟨M, h1, h2, h3⟩, h4⟩
theorem cptS_m (L : List Sp) (g n cap : Nat) (cur : Array Value) (w : World) (hq : SrtS L n cap cur) (hg : w.heap[g]? = some (.cells cur 52 (0, 0))) (hn : L.length ≤ 1048576) (hin : ∀ s ∈ L, inR s) :
    Calls Try.prog 82 #[.slice (some ⟨g, 0, none⟩) n cap] w fun e w' => e = .returned (.slice (some ⟨g, 0, none⟩) (ordL L).length cap) ∧ ∃ cs', Ap 2 (ordL L).length cap cs' (flS (ordL L)) ∧ Upd w w' g 52 cs' := by
  obtain ⟨M, hp, hs, hA⟩ := hq
  rw [← ord_of hin hp hs]
  exact cptS_any M g n cap cur w hA hg (by rw [hp.length_eq]; exact hn)
set_option maxRecDepth 100000 in
theorem ordered_any (L : List Sp) (b off cap : Nat) (w : World) (hS : SlA [] w 2 (some ⟨b, off, none⟩) (L.map Sp.cells)) (hn : L.length ≤ 1048576) (hin : ∀ s ∈ L, inR s) :
    Calls Try.prog 41 #[.slice (some ⟨b, off, none⟩) L.length cap] w (NewS 52 2 (flS (ordL L)) w) := by
  refine enter1 Try.func41 rfl rfl rfl (Own.start w) ?_
  repeat' (first
    | (refine s_g ?_; first
      | (refine s_k 0 rfl ?_; refine s_val rfl rfl rfl (r_move rfl rfl) ?_)
      | (refine s_k 1 rfl ?_; refine s_val rfl rfl rfl (r_assign rfl rfl) ?_)
      | (refine s_k 35 rfl ?_; first | (refine s_callN Try.func51 (by kernel_rfl) rfl rfl rfl rfl rfl rfl (fun w hL => clone_any L b off cap w (hS.at_ hL) hn) fun g k capk cur hA => ?_) | (refine s_callM0 Try.func81 (by kernel_rfl) rfl rfl rfl rfl rfl rfl (fun w hL hg => sortS_m L _ _ _ _ w hA hg hn hin) fun cs hp => ?_) | (refine s_callM0 Try.func82 (by kernel_rfl) rfl rfl rfl rfl rfl rfl (fun w hL hg => cptS_m L _ _ _ _ w hp hg hn hin) fun cs hp => ?_))
      | refine s_nil ?_)
    | (refine c_g ?_; first | refine c_seq ?_ | refine c_region ?_ | (refine c_gc ?_; first | refine c_cond1 rfl zTr ?_ | refine c_cond0 rfl zTr ?_ | refine z_condd1 rfl ?_ | refine z_condd0 rfl ?_ | refine z_conddn1 rfl ?_ | refine z_conddn0 rfl ?_ | refine c_condd rfl (fun hc => ?_) (fun hc => ?_) | refine c_conddn rfl (fun hc => ?_) (fun hc => ?_) | refine c_condn rfl (fun hc => ?_) (fun hc => ?_) | refine c_cond rfl (fun hc => ?_) (fun hc => ?_)) | refine c_block ?_ | refine c_skip ?_ | refine c_exit ?_ | refine c_ret ?_)
    | (refine e_g ?_; first | refine e_then ?_ | refine e_blkn ?_ | refine e_thenx ?_ | refine e_thenr ?_ | refine e_blkr ?_ | refine e_blkx ?_ | refine e_blky rfl ?_)
    | (refine e_ret1 (by simp) rfl (re_tmp rfl) fun w hL => NewS.of hp hL m0))
end Go.Proofs.Ytnafnhpajkhgkaa
/- The sides between some cells and others: the program's. No condition but a length of at most 2^20. -/
namespace Go.Proofs.Ytnafnhpajkhgkaa
set_option linter.unusedVariables false
set_option linter.unusedSimpArgs false
open Go.RowKit Mem Wk Go.Sort
attribute [local irreducible] Calls Wk.S Wk.C Wk.E Wk.X Wk.T Wk.andV Wk.shrV Calm.wpLex cpF ordL
theorem any_inL (L : List Sp) (c : Sp) : (L.any fun s => eqSp c s) = inL L c := by
  unfold inL
  by_cases h : c ∈ L
  · rw [decide_eq_true h, List.any_eq_true]
    exact ⟨c, h, by unfold eqSp; simp⟩
  · rw [decide_eq_false h, List.any_eq_false]
    intro s hs he
    unfold eqSp at he
    simp only [Bool.and_eq_true, decide_eq_true_eq] at he
    obtain ⟨x, y⟩ := c; obtain ⟨u, v⟩ := s
    simp only at he
    obtain ⟨rfl, rfl⟩ := he
    exact h hs
theorem soB_y {p : Nat → Int} {L : List Sp} {s : Sp} {k : Nat} (h1 : isC (p 0) (p 1) (nxA s k).x (nxA s k).y = true) (h2 : inL L (nxA s k) = false) : soB p L s (k + 1) = soB p L s k ++ [hdA s k] := by
  unfold soB; rw [List.range_succ, List.filter_append, List.map_append]; simp [h1, h2]
theorem soB_n1 {p : Nat → Int} {L : List Sp} {s : Sp} {k : Nat} (h1 : isC (p 0) (p 1) (nxA s k).x (nxA s k).y = false) : soB p L s (k + 1) = soB p L s k := by
  unfold soB; rw [List.range_succ, List.filter_append, List.map_append]; simp [h1]
theorem soB_n2 {p : Nat → Int} {L : List Sp} {s : Sp} {k : Nat} (h2 : inL L (nxA s k) = true) : soB p L s (k + 1) = soB p L s k := by
  unfold soB; rw [List.range_succ, List.filter_append, List.map_append]; simp [h2]
theorem soB_len (p : Nat → Int) (L : List Sp) (s : Sp) (k : Nat) : (soB p L s k).length ≤ k := by
  unfold soB; rw [List.length_map]; exact Nat.le_trans (List.length_filter_le _ _) (by simp)
theorem soB_0 (p : Nat → Int) (L : List Sp) (s : Sp) : soB p L s 0 = [] := by simp [soB]
/-- the sides of the first k cells -/
def soT (p : Nat → Int) (L M : List Sp) (k : Nat) : List Hd := (M.take k).flatMap fun s => soB p L s 4
theorem soT_succ {p : Nat → Int} {L M : List Sp} {k : Nat} {s : Sp} (h : M[k]? = some s) : soT p L M (k + 1) = soT p L M k ++ soB p L s 4 := by
  unfold soT; rw [List.take_add_one, h]; simp
theorem soT_len (p : Nat → Int) (L M : List Sp) : ∀ k, (soT p L M k).length ≤ 4 * k
  | 0 => by simp [soT]
  | k + 1 => by
    have ih := soT_len p L M k
    cases h : M[k]? with
    | none =>
      have e : soT p L M (k + 1) = soT p L M k := by unfold soT; rw [List.take_add_one, h]; simp
      rw [e]; omega
    | some s => rw [soT_succ h, List.length_append]; have := soB_len p L s 4; omega
attribute [local irreducible] soB
set_option maxRecDepth 100000 in
set_option maxHeartbeats 1600000 in
theorem sidesOf_any (p : Nat → Int) (cs : Array Value) (L : List Sp) (b off capL : Nat) (w : World) (hp : Pv p cs) (hS : SlA [] w 2 (some ⟨b, off, none⟩) (L.map Sp.cells)) (hn : L.length ≤ 1048576) (hin : ∀ s ∈ L, inR s) :
    Calls Try.prog 65 #[.agg cs, .slice (some ⟨b, off, none⟩) L.length capL] w (NewS 66 3 (flH (soL p L)) w) := by
  have hsz := hp.size
  have hord := fun w hS => ordered_any L b off capL w hS hn hin
  have hMl := ordL_len L
  have hMin : ∀ s ∈ ordL L, inR s := fun s hs => hin s ((ordL_mem hin s).1 hs)
  have hsoL : soL p L = soT p L (ordL L) (ordL L).length := by unfold soL soT; rw [List.take_length]
  rw [hsoL]
  have hmx : L.length ≤ maxLen := by unfold maxLen; omega
  generalize ordL L = M at *
  refine enter2 Try.func65 rfl rfl rfl (Own.start w) ?_
  repeat' (first
    | (refine s_g ?_; first
      | (refine s_gd rfl ?_; first | refine s_gd1 rfl rfl zTr ?_ | refine s_gd0 rfl rfl rfl zTr ?_ | refine s_gd00 rfl rfl zTr ?_ | refine s_gp1 rfl rfl rfl (fun hc => ?_) (fun hc => ?_) | refine s_gp0 rfl rfl rfl (fun hc => ?_) (fun hc => ?_) | refine s_gnp1 rfl rfl rfl (fun hc => ?_) (fun hc => ?_) | refine s_gnp0 rfl rfl rfl (fun hc => ?_) (fun hc => ?_) | refine s_gb1 rfl rfl rfl (fun hc => ?_) (fun hc => ?_) | refine s_gb0 rfl rfl rfl (fun hc => ?_) (fun hc => ?_) | refine s_gnb1 rfl rfl rfl (fun hc => ?_) (fun hc => ?_) | refine s_gnb0 rfl rfl rfl (fun hc => ?_) (fun hc => ?_))
      | (refine s_k 0 rfl ?_; refine s_val rfl rfl rfl (r_move rfl rfl) ?_)
      | (refine s_k 8 rfl ?_; first | (refine' s_val rfl rfl rfl (r_ldv rfl rfl ?qm ?qv) ?_; (case qm => (exact zMm)); (case qv => (exact zLe))) | (refine' s_val rfl rfl rfl (r_ldo rfl rfl ?qw (by simp) ?qv) ?_; (case qw => assumption); (case qv => (exact zLe))))
      | (refine s_k 1 rfl ?_; refine s_val rfl rfl rfl (r_assign rfl rfl) ?_)
      | (refine s_k 13 rfl ?_; first | refine s_val rfl rfl rfl (r_lss rfl rfl rfl) ?_ | refine s_val rfl rfl rfl (r_add rfl rfl rfl (wrap_in (by simp only [lo, hi]; omega))) ?_)
      | (refine s_k 35 rfl ?_; (refine s_callN Try.func41 (by kernel_rfl) rfl rfl rfl rfl rfl rfl (fun w hL => hord w (hS.at_ hL)) fun gl kl capl curl hAl => ?_))
      | (refine s_k 14 rfl ?_; refine s_val rfl rfl rfl (r_not rfl rfl) ?_)
      | (refine s_k 2 rfl ?_; first | refine s_val rfl rfl rfl (r_pick1 rfl rfl zTr rfl) ?_ | refine s_val rfl rfl rfl (r_pick0 rfl rfl zTr rfl) ?_)
      | (refine s_k 25 rfl ?_; first | refine s_val rfl rfl rfl (r_ixN tb rfl rfl rfl rfl (by omega)) ?_ | refine s_val rfl rfl rfl (r_ixA tb rfl rfl rfl rfl (by omega) (by omega)) ?_ | refine s_val rfl rfl rfl (r_ixO tb rfl rfl rfl rfl (by omega)) ?_)
      | (refine s_k 4 rfl ?_; first | refine s_boxA rfl rfl rfl rfl rfl fun blk => ?_ | refine s_box1 rfl rfl rfl rfl rfl rfl fun blk => ?_)
      | (refine s_k 9 rfl ?_; (first | refine s_st1 tb rfl rfl rfl rfl rfl rfl rfl rfl ?_ | refine s_stA tb rfl rfl rfl rfl (by first | rfl | assumption | (apply Pv.size; assumption)) rfl rfl ?_); (first | refine' st0 ?qs ?_ | refine' st1 ?qs ?_ | refine' st2 ?qs ?_ | refine' st3 ?qs ?_ | refine' st4 ?qs ?_ | refine' st5 ?qs ?_ | refine' st6 ?qs ?_ | refine' st7 ?qs ?_ | refine' st8 ?qs ?_ | refine' st9 ?qs ?_ | refine' st10 ?qs ?_ | refine' st11 ?qs ?_); (case qs => (first | exact zSet)))
      | (refine s_k 36 rfl ?_; refine s_val rfl rfl rfl (r_len tb rfl rfl rfl) ?_)
      | (refine s_k 6 rfl ?_; refine s_bsl rfl rfl (fun w => slHurdle0 w) rfl rfl rfl fun blk => ?_)
      | refine s_nil ?_)
    | (refine c_g ?_; first | refine c_seq ?_ | refine c_region ?_ | (refine c_gc ?_; first | refine c_cond1 rfl zTr ?_ | refine c_cond0 rfl zTr ?_ | refine z_condd1 rfl ?_ | refine z_condd0 rfl ?_ | refine z_conddn1 rfl ?_ | refine z_conddn0 rfl ?_ | refine c_condd rfl (fun hc => ?_) (fun hc => ?_) | refine c_conddn rfl (fun hc => ?_) (fun hc => ?_) | refine c_condn rfl (fun hc => ?_) (fun hc => ?_) | refine c_cond rfl (fun hc => ?_) (fun hc => ?_)) | refine c_block ?_ | refine c_skip ?_ | refine c_exit ?_ | refine c_ret ?_)
    | (refine e_g ?_; first | refine e_then ?_ | refine e_blkn ?_ | refine e_thenx ?_ | refine e_thenr ?_ | refine e_blkr ?_ | refine e_blkx ?_ | refine e_blky rfl ?_))
  rename_i b2
  obtain rfl : kl = M.length := hAl.cnt
  refine c_loop (ι := Nat × Nat × Nat × Array Value) (fun i => M.length - i.1) (fun i => i.1 ≤ M.length ∧ Ap 3 (soT p L M i.1).length i.2.2.1 i.2.2.2 (flH (soT p L M i.1))) (fun i => [(14, .int .i64 (i.1 : Int)), (13, .int .i64 (M.length : Int)), (12, .slice (some ⟨gl, 0, none⟩) M.length capl), (5, .slice (some ⟨i.2.1, 0, none⟩) (soT p L M i.1).length i.2.2.1), (2, .pointer (some ⟨b2, 0, none⟩)), (1, .slice (some ⟨b, off, none⟩) L.length capL)]) (fun i => [(gl, 52, curl), (i.2.1, 66, i.2.2.2), (b2, 32, cs)]) (0, blk, 0, #[]) ⟨by simp, by simpa [soT, flH] using Ap.nil 3⟩ ?hs rfl ?_
  case hs => (repeat' (first | exact sub_nil | refine sub_cons rfl ?_))
  rintro ⟨k, g, cap, cur⟩ ⟨hk, hA⟩
  simp only at hk hA ⊢
  have hbl := soT_len p L M k
  by_cases hlt : k < M.length
  · have hx : M[k]? = some M[k] := List.getElem?_eq_getElem hlt
    have hsp := hAl.spot hx
    have hcR := hMin _ (List.getElem_mem hlt)
    have hsn := soT_succ (p := p) (L := L) hx
    generalize M[k] = c at *
    have hcx : 0 ≤ c.x ∧ c.x < 10 := ⟨hcR.1, hcR.2.1⟩
    have hcy : 0 ≤ c.y ∧ c.y < 10 := hcR.2.2
    repeat' (first
      | (refine s_g ?_; first
      | (refine s_gd rfl ?_; first | refine s_gd1 rfl rfl zTr ?_ | refine s_gd0 rfl rfl rfl zTr ?_ | refine s_gd00 rfl rfl zTr ?_ | refine s_gp1 rfl rfl rfl (fun hc => ?_) (fun hc => ?_) | refine s_gp0 rfl rfl rfl (fun hc => ?_) (fun hc => ?_) | refine s_gnp1 rfl rfl rfl (fun hc => ?_) (fun hc => ?_) | refine s_gnp0 rfl rfl rfl (fun hc => ?_) (fun hc => ?_) | refine s_gb1 rfl rfl rfl (fun hc => ?_) (fun hc => ?_) | refine s_gb0 rfl rfl rfl (fun hc => ?_) (fun hc => ?_) | refine s_gnb1 rfl rfl rfl (fun hc => ?_) (fun hc => ?_) | refine s_gnb0 rfl rfl rfl (fun hc => ?_) (fun hc => ?_))
      | (refine s_k 0 rfl ?_; refine s_val rfl rfl rfl (r_move rfl rfl) ?_)
      | (refine s_k 8 rfl ?_; first | refine s_val rfl rfl rfl (r_ldN tb rfl rfl m0 rfl hsp.1 hsp.2) ?_ | (refine' s_val rfl rfl rfl (r_ldv rfl rfl ?qm ?qv) ?_; (case qm => (exact zMm)); (case qv => (exact zLe))) | (refine' s_val rfl rfl rfl (r_ldo rfl rfl ?qw (by simp) ?qv) ?_; (case qw => assumption); (case qv => (exact zLe))))
      | (refine s_k 1 rfl ?_; refine s_val rfl rfl rfl (r_assign rfl rfl) ?_)
      | (refine s_k 13 rfl ?_; first | refine s_val rfl rfl rfl (r_lss rfl rfl rfl) ?_ | refine s_val rfl rfl rfl (r_add rfl rfl rfl (wrap_in (by simp only [lo, hi]; omega))) ?_)
      | (refine s_k 14 rfl ?_; refine s_val rfl rfl rfl (r_not rfl rfl) ?_)
      | (refine s_k 2 rfl ?_; first | refine s_val rfl rfl rfl (r_pick1 rfl rfl zTr rfl) ?_ | refine s_val rfl rfl rfl (r_pick0 rfl rfl zTr rfl) ?_)
      | (refine s_k 25 rfl ?_; first | refine s_val rfl rfl rfl (r_ixO tb rfl rfl rfl rfl hlt) ?_ | refine s_val rfl rfl rfl (r_ixN tb rfl rfl rfl rfl (by omega)) ?_ | refine s_val rfl rfl rfl (r_ixA tb rfl rfl rfl rfl (by omega) (by omega)) ?_ | refine s_val rfl rfl rfl (r_ixO tb rfl rfl rfl rfl (by omega)) ?_)
      | (refine s_k 4 rfl ?_; first | refine s_boxA rfl rfl rfl rfl rfl fun blk => ?_ | refine s_box1 rfl rfl rfl rfl rfl rfl fun blk => ?_)
      | (refine s_k 9 rfl ?_; (first | refine s_st1 tb rfl rfl rfl rfl rfl rfl rfl rfl ?_ | refine s_stA tb rfl rfl rfl rfl (by first | rfl | assumption | (apply Pv.size; assumption)) rfl rfl ?_); (first | refine' st0 ?qs ?_ | refine' st1 ?qs ?_ | refine' st2 ?qs ?_ | refine' st3 ?qs ?_ | refine' st4 ?qs ?_ | refine' st5 ?qs ?_ | refine' st6 ?qs ?_ | refine' st7 ?qs ?_ | refine' st8 ?qs ?_ | refine' st9 ?qs ?_ | refine' st10 ?qs ?_ | refine' st11 ?qs ?_); (case qs => (first | exact set_whole (vs := c.cells.toArray) rfl (by simp [Sp.cells, Value.oneCell']) | exact zSet)))
      | (refine s_k 3 rfl ?_; refine s_allocA (t := 52) rfl zImplSpot rfl rfl rfl fun blk => ?_)
      | (refine s_k 36 rfl ?_; refine s_val rfl rfl rfl (r_len tb rfl rfl rfl) ?_)
      | refine s_nil ?_)
      | (refine c_g ?_; first | refine c_seq ?_ | refine c_region ?_ | (refine c_gc ?_; first | refine c_cond1 rfl zTr ?_ | refine c_cond0 rfl zTr ?_ | refine z_condd1 rfl ?_ | refine z_condd0 rfl ?_ | refine z_conddn1 rfl ?_ | refine z_conddn0 rfl ?_ | refine c_condd rfl (fun hc => ?_) (fun hc => ?_) | refine c_conddn rfl (fun hc => ?_) (fun hc => ?_) | refine c_condn rfl (fun hc => ?_) (fun hc => ?_) | refine c_cond rfl (fun hc => ?_) (fun hc => ?_)) | refine c_block ?_ | refine c_skip ?_ | refine c_exit ?_ | refine c_ret ?_)
      | (refine e_g ?_; first | refine e_then ?_ | refine e_blkn ?_ | refine e_thenx ?_ | refine e_thenr ?_ | refine e_blkr ?_ | refine e_blkx ?_ | refine e_blky rfl ?_))
    refine c_loop (ι := Nat × Nat × Nat × Array Value) (fun i => 4 - i.1) (fun i => i.1 ≤ 4 ∧ Ap 3 (soT p L M k ++ soB p L c i.1).length i.2.2.1 i.2.2.2 (flH (soT p L M k ++ soB p L c i.1))) (fun i => [(18, .int .i64 (i.1 : Int)), (7, .pointer (some ⟨blk, 0, none⟩)), (14, .int .i64 (k : Int)), (13, .int .i64 (M.length : Int)), (12, .slice (some ⟨gl, 0, none⟩) M.length capl), (5, .slice (some ⟨i.2.1, 0, none⟩) (soT p L M k ++ soB p L c i.1).length i.2.2.1), (2, .pointer (some ⟨b2, 0, none⟩)), (1, .slice (some ⟨b, off, none⟩) L.length capL)]) (fun i => [(blk, 52, #[.int .i8 c.x, .int .i8 c.y]), (gl, 52, curl), (i.2.1, 66, i.2.2.2), (b2, 32, cs)]) (0, g, cap, cur) ⟨by simp, by simpa [soB_0] using hA⟩ ?hs rfl ?_
    case hs => (simp only [soB_0, List.append_nil]; repeat' (first | exact sub_nil | refine sub_cons rfl ?_))
    revert blk; intro b3
    rintro ⟨j, g, cap, cur⟩ ⟨hj, hA⟩
    simp only at hj hA ⊢
    have hbj := soB_len p L c j
    have hlen : (soT p L M k ++ soB p L c j).length ≤ 404 := by rw [List.length_append]; omega
    by_cases hlt2 : j < 4
    · have hr := next_range (side := (j : Int)) hcx hcy
      have hah := fun w => ahead_any c.x c.y (j : Int) w (by omega) (by omega)
      have hany := any_inL L (nxA c j)
      have hsy := soB_y (p := p) (L := L) (s := c) (k := j)
      have hs1 := soB_n1 (p := p) (L := L) (s := c) (k := j)
      have hs2 := soB_n2 (p := p) (L := L) (s := c) (k := j)
      have hnx : nxA c j = ⟨nextX c.x j, nextY c.y j⟩ := rfl
      have hhd : hdA c j = ⟨hdX c.x j, hdY c.y j, hdS j⟩ := rfl
      rw [hnx] at hany hsy hs1 hs2
      rw [hhd] at hsy
      simp only at hsy hs1 hs2
      generalize nextX c.x j = nx at *
      generalize nextY c.y j = ny at *
      cases hic : isC (p 0) (p 1) nx ny
      case' true => cases hil : inL L ⟨nx, ny⟩
      all_goals
        try rw [hil] at hany
        first
          | have hb1 := hsy hic hil
          | have hb1 := hs2 hil
          | have hb1 := hs1 hic
        clear hsy hs1 hs2
        repeat' (first
          | (refine s_g ?_; first
      | (refine s_gd rfl ?_; first | refine s_gd1 rfl rfl zTr ?_ | refine s_gd0 rfl rfl rfl zTr ?_ | refine s_gd00 rfl rfl zTr ?_ | refine s_gdu rfl rfl rfl ?_ | refine s_gp1 rfl rfl rfl (fun hc => ?_) (fun hc => ?_) | refine s_gp0 rfl rfl rfl (fun hc => ?_) (fun hc => ?_) | refine s_gnp1 rfl rfl rfl (fun hc => ?_) (fun hc => ?_) | refine s_gnp0 rfl rfl rfl (fun hc => ?_) (fun hc => ?_) | refine s_gb1 rfl rfl rfl (fun hc => ?_) (fun hc => ?_) | refine s_gb0 rfl rfl rfl (fun hc => ?_) (fun hc => ?_) | refine s_gnb1 rfl rfl rfl (fun hc => ?_) (fun hc => ?_) | refine s_gnb0 rfl rfl rfl (fun hc => ?_) (fun hc => ?_))
      | (refine s_k 0 rfl ?_; refine s_val rfl rfl rfl (r_move rfl rfl) ?_)
      | (refine s_k 8 rfl ?_; first | (refine' s_val rfl rfl rfl (r_ldv rfl rfl ?qm ?qv) ?_; (case qm => (exact zMm)); (case qv => (exact zLe))) | (refine' s_val rfl rfl rfl (r_ldo rfl rfl ?qw (by simp) ?qv) ?_; (case qw => assumption); (case qv => (exact zLe))))
      | (refine s_k 1 rfl ?_; refine s_val rfl rfl rfl (r_assign rfl rfl) ?_)
      | (refine s_k 13 rfl ?_; first | refine s_val rfl rfl rfl (r_lss rfl rfl rfl) ?_ | refine s_val rfl rfl rfl (r_add rfl rfl rfl (wrap_in (by simp only [lo, hi]; omega))) ?_)
      | (refine s_k 35 rfl ?_; first | (refine s_call Try.func79 (by kernel_rfl) rfl rfl rfl rfl rfl rfl (fun w hL => hah w) ?_) | (refine s_call Try.func63 (by kernel_rfl) rfl rfl rfl rfl rfl rfl (fun w hL => (by have q := isCell_any p cs nx ny w hp (by omega) (by omega); rw [hic] at q; exact q)) ?_) | (refine s_call Try.func97 (by kernel_rfl) rfl rfl rfl rfl rfl rfl (fun w hL => (by have q := hasSpot_any L nx ny (some ⟨b, off, none⟩) capL w (hS.at_ hL) hmx; rw [hany] at q; exact q)) ?_) | (refine s_call Try.func86 (by kernel_rfl) rfl rfl rfl rfl rfl rfl (fun w hL => hurdleAt_any _ _ _ _ (by omega) (by omega)) ?_))
      | (refine s_k 14 rfl ?_; refine s_val rfl rfl rfl (r_not rfl rfl) ?_)
      | (refine s_k 2 rfl ?_; first | refine s_val rfl rfl rfl (r_pick1 rfl rfl zTr rfl) ?_ | refine s_val rfl rfl rfl (r_pick0 rfl rfl zTr rfl) ?_)
      | (refine s_k 25 rfl ?_; first | refine s_val rfl rfl rfl (r_ixN tb rfl rfl rfl rfl (by omega)) ?_ | refine s_val rfl rfl rfl (r_ixA tb rfl rfl rfl rfl (by omega) (by omega)) ?_ | refine s_val rfl rfl rfl (r_ixO tb rfl rfl rfl rfl (by omega)) ?_)
      | (refine s_k 4 rfl ?_; first | refine s_boxA rfl rfl rfl rfl rfl fun blk => ?_ | refine s_box1 rfl rfl rfl rfl rfl rfl fun blk => ?_)
      | (refine s_k 9 rfl ?_; (first | refine s_st1 tb rfl rfl rfl rfl rfl rfl rfl rfl ?_ | refine s_stA tb rfl rfl rfl rfl (by first | rfl | assumption | (apply Pv.size; assumption)) rfl rfl ?_); (first | refine' st0 ?qs ?_ | refine' st1 ?qs ?_ | refine' st2 ?qs ?_ | refine' st3 ?qs ?_ | refine' st4 ?qs ?_ | refine' st5 ?qs ?_ | refine' st6 ?qs ?_ | refine' st7 ?qs ?_ | refine' st8 ?qs ?_ | refine' st9 ?qs ?_ | refine' st10 ?qs ?_ | refine' st11 ?qs ?_); (case qs => (first | exact set_whole (vs := #[.int .i8 nx, .int .i8 ny]) rfl (by simp [Value.oneCell']) | exact zSet)))
      | (refine s_k 3 rfl ?_; refine s_allocA (t := 52) rfl zImplSpot rfl rfl rfl fun blk => ?_)
      | (refine s_k 36 rfl ?_; first | refine s_app3 hA rfl rfl rfl uHurdleS iHurdle rfl (by omega) (by simp) (by simp) rfl (by simp [Value.oneCell']) (by unfold maxLen; omega) (by omega) rfl rfl rfl fun g cap cur hA => ?_ | refine s_val rfl rfl rfl (r_len tb rfl rfl rfl) ?_)
      | (refine s_k 6 rfl ?_; refine s_bsl rfl rfl (fun w => slHurdle1 _ _ _ w) rfl rfl rfl fun blk => ?_)
      | refine s_nil ?_)
          | (refine c_g ?_; first | refine c_seq ?_ | refine c_region ?_ | (refine c_gc ?_; first | refine c_cond1 rfl zTr ?_ | refine c_cond0 rfl zTr ?_ | refine z_condd1 rfl ?_ | refine z_condd0 rfl ?_ | refine z_conddn1 rfl ?_ | refine z_conddn0 rfl ?_ | refine c_condd rfl (fun hc => ?_) (fun hc => ?_) | refine c_conddn rfl (fun hc => ?_) (fun hc => ?_) | refine c_condn rfl (fun hc => ?_) (fun hc => ?_) | refine c_cond rfl (fun hc => ?_) (fun hc => ?_)) | refine c_block ?_ | refine c_skip ?_ | refine c_exit ?_ | refine c_ret ?_)
          | (refine e_g ?_; first | refine e_then ?_ | refine e_blkn ?_ | refine e_thenx ?_ | refine e_thenr ?_ | refine e_blkr ?_ | refine e_blkx ?_ | refine e_blky rfl ?_)
          | refine e_drop0 (e_round (j + 1, g, cap, cur) (by simp; omega) ⟨by simp; omega, ?_⟩ ?hs rfl))
        all_goals first
          | (case hs => simp only; rw [hb1]; (repeat' (first | exact sub_nil | refine sub_cons rfl ?_ | refine sub_cons' rfl (by simp [Nat.add_assoc]) ?_)); done)
          | (simp only; rw [hb1]; first | exact hA | (rw [← List.append_assoc, flH_snoc]; simpa [Hd.cells, Nat.add_assoc] using hA))
    · obtain rfl : j = 4 := by omega
      rw [← hsn] at hA ⊢
      repeat' (first
        | (refine s_g ?_; first
      | (refine s_gd rfl ?_; first | refine s_gd1 rfl rfl zTr ?_ | refine s_gd0 rfl rfl rfl zTr ?_ | refine s_gd00 rfl rfl zTr ?_ | refine s_gp1 rfl rfl rfl (fun hc => ?_) (fun hc => ?_) | refine s_gp0 rfl rfl rfl (fun hc => ?_) (fun hc => ?_) | refine s_gnp1 rfl rfl rfl (fun hc => ?_) (fun hc => ?_) | refine s_gnp0 rfl rfl rfl (fun hc => ?_) (fun hc => ?_) | refine s_gb1 rfl rfl rfl (fun hc => ?_) (fun hc => ?_) | refine s_gb0 rfl rfl rfl (fun hc => ?_) (fun hc => ?_) | refine s_gnb1 rfl rfl rfl (fun hc => ?_) (fun hc => ?_) | refine s_gnb0 rfl rfl rfl (fun hc => ?_) (fun hc => ?_))
      | (refine s_k 0 rfl ?_; refine s_val rfl rfl rfl (r_move rfl rfl) ?_)
      | (refine s_k 8 rfl ?_; first | (refine' s_val rfl rfl rfl (r_ldv rfl rfl ?qm ?qv) ?_; (case qm => (exact zMm)); (case qv => (exact zLe))) | (refine' s_val rfl rfl rfl (r_ldo rfl rfl ?qw (by simp) ?qv) ?_; (case qw => assumption); (case qv => (exact zLe))))
      | (refine s_k 1 rfl ?_; refine s_val rfl rfl rfl (r_assign rfl rfl) ?_)
      | (refine s_k 13 rfl ?_; first | refine s_val rfl rfl rfl (r_lss rfl rfl rfl) ?_ | refine s_val rfl rfl rfl (r_add rfl rfl rfl (wrap_in (by simp only [lo, hi]; omega))) ?_)
      | (refine s_k 14 rfl ?_; refine s_val rfl rfl rfl (r_not rfl rfl) ?_)
      | (refine s_k 2 rfl ?_; first | refine s_val rfl rfl rfl (r_pick1 rfl rfl zTr rfl) ?_ | refine s_val rfl rfl rfl (r_pick0 rfl rfl zTr rfl) ?_)
      | (refine s_k 25 rfl ?_; first | refine s_val rfl rfl rfl (r_ixN tb rfl rfl rfl rfl (by omega)) ?_ | refine s_val rfl rfl rfl (r_ixA tb rfl rfl rfl rfl (by omega) (by omega)) ?_ | refine s_val rfl rfl rfl (r_ixO tb rfl rfl rfl rfl (by omega)) ?_)
      | (refine s_k 4 rfl ?_; first | refine s_boxA rfl rfl rfl rfl rfl fun blk => ?_ | refine s_box1 rfl rfl rfl rfl rfl rfl fun blk => ?_)
      | (refine s_k 9 rfl ?_; (first | refine s_st1 tb rfl rfl rfl rfl rfl rfl rfl rfl ?_ | refine s_stA tb rfl rfl rfl rfl (by first | rfl | assumption | (apply Pv.size; assumption)) rfl rfl ?_); (first | refine' st0 ?qs ?_ | refine' st1 ?qs ?_ | refine' st2 ?qs ?_ | refine' st3 ?qs ?_ | refine' st4 ?qs ?_ | refine' st5 ?qs ?_ | refine' st6 ?qs ?_ | refine' st7 ?qs ?_ | refine' st8 ?qs ?_ | refine' st9 ?qs ?_ | refine' st10 ?qs ?_ | refine' st11 ?qs ?_); (case qs => (first | exact zSet)))
      | (refine s_k 36 rfl ?_; refine s_val rfl rfl rfl (r_len tb rfl rfl rfl) ?_)
      | refine s_nil ?_)
        | (refine c_g ?_; first | refine c_seq ?_ | refine c_region ?_ | (refine c_gc ?_; first | refine c_cond1 rfl zTr ?_ | refine c_cond0 rfl zTr ?_ | refine z_condd1 rfl ?_ | refine z_condd0 rfl ?_ | refine z_conddn1 rfl ?_ | refine z_conddn0 rfl ?_ | refine c_condd rfl (fun hc => ?_) (fun hc => ?_) | refine c_conddn rfl (fun hc => ?_) (fun hc => ?_) | refine c_condn rfl (fun hc => ?_) (fun hc => ?_) | refine c_cond rfl (fun hc => ?_) (fun hc => ?_)) | refine c_block ?_ | refine c_skip ?_ | refine c_exit ?_ | refine c_ret ?_)
        | (refine e_g ?_; first | refine e_then ?_ | refine e_blkn ?_ | refine e_thenx ?_ | refine e_thenr ?_ | refine e_blkr ?_ | refine e_blkx ?_ | refine e_blky rfl ?_)
        | (refine e_drop0 (e_round (k + 1, g, cap, cur) (by simp; omega) ⟨by simp; omega, hA⟩ ?_ rfl); (repeat' (first | exact sub_nil | refine sub_cons rfl ?_))))
  · obtain rfl : k = M.length := by omega
    repeat' (first
      | (refine s_g ?_; first
      | (refine s_gd rfl ?_; first | refine s_gd1 rfl rfl zTr ?_ | refine s_gd0 rfl rfl rfl zTr ?_ | refine s_gd00 rfl rfl zTr ?_ | refine s_gp1 rfl rfl rfl (fun hc => ?_) (fun hc => ?_) | refine s_gp0 rfl rfl rfl (fun hc => ?_) (fun hc => ?_) | refine s_gnp1 rfl rfl rfl (fun hc => ?_) (fun hc => ?_) | refine s_gnp0 rfl rfl rfl (fun hc => ?_) (fun hc => ?_) | refine s_gb1 rfl rfl rfl (fun hc => ?_) (fun hc => ?_) | refine s_gb0 rfl rfl rfl (fun hc => ?_) (fun hc => ?_) | refine s_gnb1 rfl rfl rfl (fun hc => ?_) (fun hc => ?_) | refine s_gnb0 rfl rfl rfl (fun hc => ?_) (fun hc => ?_))
      | (refine s_k 0 rfl ?_; refine s_val rfl rfl rfl (r_move rfl rfl) ?_)
      | (refine s_k 8 rfl ?_; first | (refine' s_val rfl rfl rfl (r_ldv rfl rfl ?qm ?qv) ?_; (case qm => (exact zMm)); (case qv => (exact zLe))) | (refine' s_val rfl rfl rfl (r_ldo rfl rfl ?qw (by simp) ?qv) ?_; (case qw => assumption); (case qv => (exact zLe))))
      | (refine s_k 1 rfl ?_; refine s_val rfl rfl rfl (r_assign rfl rfl) ?_)
      | (refine s_k 13 rfl ?_; first | refine s_val rfl rfl rfl (r_lss rfl rfl rfl) ?_ | refine s_val rfl rfl rfl (r_add rfl rfl rfl (wrap_in (by simp only [lo, hi]; omega))) ?_)
      | (refine s_k 14 rfl ?_; refine s_val rfl rfl rfl (r_not rfl rfl) ?_)
      | (refine s_k 2 rfl ?_; first | refine s_val rfl rfl rfl (r_pick1 rfl rfl zTr rfl) ?_ | refine s_val rfl rfl rfl (r_pick0 rfl rfl zTr rfl) ?_)
      | (refine s_k 25 rfl ?_; first | refine s_val rfl rfl rfl (r_ixN tb rfl rfl rfl rfl (by omega)) ?_ | refine s_val rfl rfl rfl (r_ixA tb rfl rfl rfl rfl (by omega) (by omega)) ?_ | refine s_val rfl rfl rfl (r_ixO tb rfl rfl rfl rfl (by omega)) ?_)
      | (refine s_k 4 rfl ?_; first | refine s_boxA rfl rfl rfl rfl rfl fun blk => ?_ | refine s_box1 rfl rfl rfl rfl rfl rfl fun blk => ?_)
      | (refine s_k 9 rfl ?_; (first | refine s_st1 tb rfl rfl rfl rfl rfl rfl rfl rfl ?_ | refine s_stA tb rfl rfl rfl rfl (by first | rfl | assumption | (apply Pv.size; assumption)) rfl rfl ?_); (first | refine' st0 ?qs ?_ | refine' st1 ?qs ?_ | refine' st2 ?qs ?_ | refine' st3 ?qs ?_ | refine' st4 ?qs ?_ | refine' st5 ?qs ?_ | refine' st6 ?qs ?_ | refine' st7 ?qs ?_ | refine' st8 ?qs ?_ | refine' st9 ?qs ?_ | refine' st10 ?qs ?_ | refine' st11 ?qs ?_); (case qs => (first | exact zSet)))
      | (refine s_k 36 rfl ?_; refine s_val rfl rfl rfl (r_len tb rfl rfl rfl) ?_)
      | refine s_nil ?_)
      | (refine c_g ?_; first | refine c_seq ?_ | refine c_region ?_ | (refine c_gc ?_; first | refine c_cond1 rfl zTr ?_ | refine c_cond0 rfl zTr ?_ | refine z_condd1 rfl ?_ | refine z_condd0 rfl ?_ | refine z_conddn1 rfl ?_ | refine z_conddn0 rfl ?_ | refine c_condd rfl (fun hc => ?_) (fun hc => ?_) | refine c_conddn rfl (fun hc => ?_) (fun hc => ?_) | refine c_condn rfl (fun hc => ?_) (fun hc => ?_) | refine c_cond rfl (fun hc => ?_) (fun hc => ?_)) | refine c_block ?_ | refine c_skip ?_ | refine c_exit ?_ | refine c_ret ?_)
      | (refine e_g ?_; first | refine e_then ?_ | refine e_blkn ?_ | refine e_thenx ?_ | refine e_thenr ?_ | refine e_blkr ?_ | refine e_blkx ?_ | refine e_blky rfl ?_)
      | (refine e_ret1 (by simp) rfl (re_tmp rfl) fun w hL => NewS.of hA hL (by simp)))
end Go.Proofs.Ytnafnhpajkhgkaa
