import Derived.Test.YtpifngdmlmfnhaaQB15
import Derived.Test.YtpifngdmlmfnhaaQB33
/- Marks in what a callee has made: Goat. No condition but a length of at most 2^20. -/
namespace Go.Proofs.Ytpifngdmlmfnhaa
set_option linter.unusedVariables false
set_option linter.unusedSimpArgs false
open Go.RowKit Mem Wk
attribute [local irreducible] Calls Wk.S Wk.C Wk.E Wk.X Wk.T Wk.Y Wk.andV Wk.shrV Calm.wpLex CalmB.wpLex
def mkG (k0 j : Nat) : Value := if j % 7 = 0 then .int .i8 (IntKind.i8.wrap ((k0 : Int) + (j : Int))) else if j % 7 = 1 then .int .i8 (IntKind.i8.wrap ((k0 : Int) + (j : Int))) else if j % 7 = 2 then .int .i8 (IntKind.i8.wrap ((k0 : Int) + (j : Int))) else if j % 7 = 3 then .int .i8 (IntKind.i8.wrap ((k0 : Int) + (j : Int))) else if j % 7 = 4 then .int .i16 (IntKind.i16.wrap ((k0 : Int) + (j : Int))) else if j % 7 = 5 then .int .i16 (IntKind.i16.wrap ((k0 : Int) + (j : Int))) else .int .i8 (IntKind.i8.wrap ((k0 : Int) + (j : Int)))
theorem mkG_0 (k0 k : Nat) : mkG k0 (k * 7 + 0) = .int .i8 (IntKind.i8.wrap ((k0 : Int) + ((k * 7 : Nat) : Int))) := by
  have e : (k0 : Int) + ((k * 7 + 0 : Nat) : Int) = (k0 : Int) + ((k * 7 : Nat) : Int) := by omega
  unfold mkG
  rw [if_pos (by omega : (k * 7 + 0) % 7 = 0), e]
theorem mkG_1 (k0 k : Nat) : mkG k0 (k * 7 + 1) = .int .i8 (IntKind.i8.wrap ((k0 : Int) + ((k * 7 : Nat) : Int) + 1)) := by
  have e : (k0 : Int) + ((k * 7 + 1 : Nat) : Int) = (k0 : Int) + ((k * 7 : Nat) : Int) + 1 := by omega
  unfold mkG
  rw [if_neg (by omega : ¬ (k * 7 + 1) % 7 = 0), if_pos (by omega : (k * 7 + 1) % 7 = 1), e]
theorem mkG_2 (k0 k : Nat) : mkG k0 (k * 7 + 2) = .int .i8 (IntKind.i8.wrap ((k0 : Int) + ((k * 7 : Nat) : Int) + 1 + 1)) := by
  have e : (k0 : Int) + ((k * 7 + 2 : Nat) : Int) = (k0 : Int) + ((k * 7 : Nat) : Int) + 1 + 1 := by omega
  unfold mkG
  rw [if_neg (by omega : ¬ (k * 7 + 2) % 7 = 0), if_neg (by omega : ¬ (k * 7 + 2) % 7 = 1), if_pos (by omega : (k * 7 + 2) % 7 = 2), e]
theorem mkG_3 (k0 k : Nat) : mkG k0 (k * 7 + 3) = .int .i8 (IntKind.i8.wrap ((k0 : Int) + ((k * 7 : Nat) : Int) + 1 + 1 + 1)) := by
  have e : (k0 : Int) + ((k * 7 + 3 : Nat) : Int) = (k0 : Int) + ((k * 7 : Nat) : Int) + 1 + 1 + 1 := by omega
  unfold mkG
  rw [if_neg (by omega : ¬ (k * 7 + 3) % 7 = 0), if_neg (by omega : ¬ (k * 7 + 3) % 7 = 1), if_neg (by omega : ¬ (k * 7 + 3) % 7 = 2), if_pos (by omega : (k * 7 + 3) % 7 = 3), e]
theorem mkG_4 (k0 k : Nat) : mkG k0 (k * 7 + 4) = .int .i16 (IntKind.i16.wrap ((k0 : Int) + ((k * 7 : Nat) : Int) + 1 + 1 + 1 + 1)) := by
  have e : (k0 : Int) + ((k * 7 + 4 : Nat) : Int) = (k0 : Int) + ((k * 7 : Nat) : Int) + 1 + 1 + 1 + 1 := by omega
  unfold mkG
  rw [if_neg (by omega : ¬ (k * 7 + 4) % 7 = 0), if_neg (by omega : ¬ (k * 7 + 4) % 7 = 1), if_neg (by omega : ¬ (k * 7 + 4) % 7 = 2), if_neg (by omega : ¬ (k * 7 + 4) % 7 = 3), if_pos (by omega : (k * 7 + 4) % 7 = 4), e]
theorem mkG_5 (k0 k : Nat) : mkG k0 (k * 7 + 5) = .int .i16 (IntKind.i16.wrap ((k0 : Int) + ((k * 7 : Nat) : Int) + 1 + 1 + 1 + 1 + 1)) := by
  have e : (k0 : Int) + ((k * 7 + 5 : Nat) : Int) = (k0 : Int) + ((k * 7 : Nat) : Int) + 1 + 1 + 1 + 1 + 1 := by omega
  unfold mkG
  rw [if_neg (by omega : ¬ (k * 7 + 5) % 7 = 0), if_neg (by omega : ¬ (k * 7 + 5) % 7 = 1), if_neg (by omega : ¬ (k * 7 + 5) % 7 = 2), if_neg (by omega : ¬ (k * 7 + 5) % 7 = 3), if_neg (by omega : ¬ (k * 7 + 5) % 7 = 4), if_pos (by omega : (k * 7 + 5) % 7 = 5), e]
theorem mkG_6 (k0 k : Nat) : mkG k0 (k * 7 + 6) = .int .i8 (IntKind.i8.wrap ((k0 : Int) + ((k * 7 : Nat) : Int) + 1 + 1 + 1 + 1 + 1 + 1)) := by
  have e : (k0 : Int) + ((k * 7 + 6 : Nat) : Int) = (k0 : Int) + ((k * 7 : Nat) : Int) + 1 + 1 + 1 + 1 + 1 + 1 := by omega
  unfold mkG
  rw [if_neg (by omega : ¬ (k * 7 + 6) % 7 = 0), if_neg (by omega : ¬ (k * 7 + 6) % 7 = 1), if_neg (by omega : ¬ (k * 7 + 6) % 7 = 2), if_neg (by omega : ¬ (k * 7 + 6) % 7 = 3), if_neg (by omega : ¬ (k * 7 + 6) % 7 = 4), if_neg (by omega : ¬ (k * 7 + 6) % 7 = 5), e]
set_option maxRecDepth 100000 in
set_option maxHeartbeats 1600000 in
theorem markGoatS_any (k0 n cap g : Nat) (cur : Array Value) (w : World) (hs : n * 7 ≤ cur.size) (hg : w.heap[g]? = some (.cells cur 102 (0, 0))) (hn : n ≤ 1048576) (hk0 : k0 ≤ 100000000) :
    Calls Try.prog 39 #[.slice (some ⟨g, 0, none⟩) n cap, .int .i64 (k0 : Int)] w fun e w' => e = .returned (.int .i64 ((k0 : Int) + ((n * 7 : Nat) : Int))) ∧ ∃ cs', (cs'.size = cur.size ∧ Mkd (mkG k0) cs' (n * 7)) ∧ Upd w w' g 102 cs' := by
  refine enter2 Try.func39 rfl rfl rfl (Own.startAt w hg) ?_
  repeat' (first
    | (refine s_g ?_; first
      | (refine s_k 0 rfl ?_; refine s_val rfl rfl rfl (r_move rfl rfl) ?_)
      | (refine s_k 23 rfl ?_; first | refine s_val rfl rfl rfl (r_field tb rfl rfl rfl) ?_ | refine s_val rfl rfl rfl (r_fieldS tb rfl rfl rfl) ?_)
      | (refine s_k 1 rfl ?_; refine s_val rfl rfl rfl (r_assign rfl rfl) ?_)
      | (refine s_k 13 rfl ?_; first | refine s_val rfl rfl rfl (r_lss rfl rfl rfl) ?_ | refine s_val rfl rfl rfl (r_add rfl rfl rfl (wrap_in (by simp only [lo, hi]; omega))) ?_)
      | (refine s_k 15 rfl ?_; refine s_val rfl rfl rfl (r_conv tb rfl rfl rfl rfl (wrap_in (by simp only [lo, hi]; omega))) ?_)
      | (refine s_k 25 rfl ?_; first | refine s_val rfl rfl rfl (r_ixN tb rfl rfl rfl rfl (by omega)) ?_ | refine s_val rfl rfl rfl (r_ixA tb rfl rfl rfl rfl (by omega) (by omega)) ?_ | refine s_val rfl rfl rfl (r_ixO tb rfl rfl rfl rfl (by omega)) ?_)
      | (refine s_k 9 rfl ?_; (first | refine s_st1 tb rfl rfl rfl rfl rfl rfl rfl rfl ?_ | refine s_stA tb rfl rfl rfl rfl (by first | rfl | assumption | (apply Pv.size; assumption)) rfl rfl ?_); (first | refine' st0 ?qs ?_ | refine' st1 ?qs ?_ | refine' st2 ?qs ?_ | refine' st3 ?qs ?_ | refine' st4 ?qs ?_ | refine' st5 ?qs ?_ | refine' st6 ?qs ?_ | refine' st7 ?qs ?_ | refine' st8 ?qs ?_ | refine' st9 ?qs ?_ | refine' st10 ?qs ?_ | refine' st11 ?qs ?_); (case qs => (first | exact zSet)))
      | (refine s_k 36 rfl ?_; refine s_val rfl rfl rfl (r_len tb rfl rfl rfl) ?_)
      | refine s_nil ?_)
    | (refine c_g ?_; first | refine c_seq ?_ | refine c_region ?_ | (refine c_gc ?_; first | refine c_cond1 rfl zTr ?_ | refine c_cond0 rfl zTr ?_ | refine z_condd1 rfl ?_ | refine z_condd0 rfl ?_ | refine z_conddn1 rfl ?_ | refine z_conddn0 rfl ?_ | refine c_condd rfl (fun hc => ?_) (fun hc => ?_) | refine c_conddn rfl (fun hc => ?_) (fun hc => ?_) | refine c_condn rfl (fun hc => ?_) (fun hc => ?_) | refine c_cond rfl (fun hc => ?_) (fun hc => ?_)) | refine c_block ?_ | refine c_skip ?_ | refine c_exit ?_ | refine c_ret ?_)
    | (refine e_g ?_; first | refine e_then ?_ | refine e_blkn ?_ | refine e_thenx ?_ | refine e_thenr ?_ | refine e_blkr ?_ | refine e_blkx ?_ | refine e_blky rfl ?_))
  refine c_loop (ι := Nat × Array Value) (fun i => n - i.1) (fun i => i.1 ≤ n ∧ i.2.size = cur.size ∧ Mkd (mkG k0) i.2 (i.1 * 7)) (fun i => [(5, .int .i64 (i.1 : Int)), (1, .int .i64 ((k0 : Int) + ((i.1 * 7 : Nat) : Int))), (0, .slice (some ⟨g, 0, none⟩) n cap)]) (fun i => [(g, 102, i.2)]) (0, cur) ⟨by simp, rfl, fun j hj => by simp at hj⟩ ?hs rfl ?_
  case hs => exact sub_cons rfl (sub_cons' rfl (by first | rfl | simp) (sub_cons rfl sub_nil))
  rintro ⟨k, c⟩ ⟨hk, hsz, hM⟩
  simp only at hk hsz hM ⊢
  by_cases hlt : k < n
  · repeat' (first
      | (refine s_g ?_; first
      | (refine s_k 0 rfl ?_; refine s_val rfl rfl rfl (r_move rfl rfl) ?_)
      | (refine s_k 23 rfl ?_; first | refine s_val rfl rfl rfl (r_field tb rfl rfl rfl) ?_ | refine s_val rfl rfl rfl (r_fieldS tb rfl rfl rfl) ?_)
      | (refine s_k 1 rfl ?_; refine s_val rfl rfl rfl (r_assign rfl rfl) ?_)
      | (refine s_k 13 rfl ?_; first | refine s_val rfl rfl rfl (r_lss rfl rfl rfl) ?_ | refine s_val rfl rfl rfl (r_add rfl rfl rfl (wrap_in (by simp only [lo, hi]; omega))) ?_ | refine s_val rfl rfl rfl (r_add rfl rfl rfl rfl) ?_ | refine s_val rfl rfl rfl (r_sub rfl rfl rfl rfl) ?_ | refine s_val rfl rfl rfl (r_mul rfl rfl rfl rfl) ?_)
      | (refine s_k 15 rfl ?_; first | refine s_val rfl rfl rfl (r_conv tb rfl rfl rfl rfl (wrap_in (by simp only [lo, hi]; omega))) ?_ | refine s_val rfl rfl rfl (r_conv tb rfl rfl rfl rfl rfl) ?_)
      | (refine s_k 25 rfl ?_; first | refine s_val rfl rfl rfl (r_ixO tb rfl rfl rfl rfl hlt) ?_ | refine s_val rfl rfl rfl (r_ixN tb rfl rfl rfl rfl (by omega)) ?_ | refine s_val rfl rfl rfl (r_ixA tb rfl rfl rfl rfl (by omega) (by omega)) ?_ | refine s_val rfl rfl rfl (r_ixO tb rfl rfl rfl rfl (by omega)) ?_)
      | (refine s_k 9 rfl ?_; (first | refine s_st1 tb rfl rfl rfl rfl rfl rfl rfl rfl ?_ | refine s_stA tb rfl rfl rfl rfl (by first | rfl | assumption | (apply Pv.size; assumption)) rfl rfl ?_); (first | refine' st0 ?qs ?_ | refine' st1 ?qs ?_ | refine' st2 ?qs ?_ | refine' st3 ?qs ?_ | refine' st4 ?qs ?_ | refine' st5 ?qs ?_ | refine' st6 ?qs ?_ | refine' st7 ?qs ?_ | refine' st8 ?qs ?_ | refine' st9 ?qs ?_ | refine' st10 ?qs ?_ | refine' st11 ?qs ?_); (case qs => (first | exact set_one (by omega) rfl | exact zSet)); (first | (refine absA0 (fun c => c.size = cur.size ∧ Mkd (mkG k0) c (k * 7 + 1)) ⟨by simp [hsz], hM.put (by omega) (by omega) (mkG_0 k0 k).symm⟩ fun c1 hM1 => ?_) | (refine absA0 (fun c => c.size = cur.size ∧ Mkd (mkG k0) c (k * 7 + 2)) ⟨by simp [hM1.1], hM1.2.put (by omega) (by omega) (mkG_1 k0 k).symm⟩ fun c2 hM2 => ?_) | (refine absA0 (fun c => c.size = cur.size ∧ Mkd (mkG k0) c (k * 7 + 3)) ⟨by simp [hM2.1], hM2.2.put (by omega) (by omega) (mkG_2 k0 k).symm⟩ fun c3 hM3 => ?_) | (refine absA0 (fun c => c.size = cur.size ∧ Mkd (mkG k0) c (k * 7 + 4)) ⟨by simp [hM3.1], hM3.2.put (by omega) (by omega) (mkG_3 k0 k).symm⟩ fun c4 hM4 => ?_) | (refine absA0 (fun c => c.size = cur.size ∧ Mkd (mkG k0) c (k * 7 + 5)) ⟨by simp [hM4.1], hM4.2.put (by omega) (by omega) (mkG_4 k0 k).symm⟩ fun c5 hM5 => ?_) | (refine absA0 (fun c => c.size = cur.size ∧ Mkd (mkG k0) c (k * 7 + 6)) ⟨by simp [hM5.1], hM5.2.put (by omega) (by omega) (mkG_5 k0 k).symm⟩ fun c6 hM6 => ?_) | (refine absA0 (fun c => c.size = cur.size ∧ Mkd (mkG k0) c (k * 7 + 7)) ⟨by simp [hM6.1], hM6.2.put (by omega) (by omega) (mkG_6 k0 k).symm⟩ fun c7 hM7 => ?_) | skip))
      | (refine s_k 36 rfl ?_; refine s_val rfl rfl rfl (r_len tb rfl rfl rfl) ?_)
      | refine s_nil ?_)
      | (refine c_g ?_; first | refine c_seq ?_ | refine c_region ?_ | (refine c_gc ?_; first | refine c_cond1 rfl zTr ?_ | refine c_cond0 rfl zTr ?_ | refine z_condd1 rfl ?_ | refine z_condd0 rfl ?_ | refine z_conddn1 rfl ?_ | refine z_conddn0 rfl ?_ | refine c_condd rfl (fun hc => ?_) (fun hc => ?_) | refine c_conddn rfl (fun hc => ?_) (fun hc => ?_) | refine c_condn rfl (fun hc => ?_) (fun hc => ?_) | refine c_cond rfl (fun hc => ?_) (fun hc => ?_)) | refine c_block ?_ | refine c_skip ?_ | refine c_exit ?_ | refine c_ret ?_)
      | (refine e_g ?_; first | refine e_then ?_ | refine e_blkn ?_ | refine e_thenx ?_ | refine e_thenr ?_ | refine e_blkr ?_ | refine e_blkx ?_ | refine e_blky rfl ?_)
      | (refine e_round (k + 1, c7) (by simp; omega) ⟨by simp; omega, hM7.1, by rw [Nat.succ_mul]; exact hM7.2⟩ ?_ rfl; exact sub_cons rfl (sub_cons' rfl (by first | rfl | (simp only; congr 1; omega) | (congr 1; omega)) (sub_cons rfl sub_nil))))
  · have hkn : k = n := by omega
    subst hkn
    repeat' (first
      | (refine s_g ?_; first
      | (refine s_k 0 rfl ?_; refine s_val rfl rfl rfl (r_move rfl rfl) ?_)
      | (refine s_k 23 rfl ?_; first | refine s_val rfl rfl rfl (r_field tb rfl rfl rfl) ?_ | refine s_val rfl rfl rfl (r_fieldS tb rfl rfl rfl) ?_)
      | (refine s_k 1 rfl ?_; refine s_val rfl rfl rfl (r_assign rfl rfl) ?_)
      | (refine s_k 13 rfl ?_; first | refine s_val rfl rfl rfl (r_lss rfl rfl rfl) ?_ | refine s_val rfl rfl rfl (r_add rfl rfl rfl (wrap_in (by simp only [lo, hi]; omega))) ?_)
      | (refine s_k 15 rfl ?_; refine s_val rfl rfl rfl (r_conv tb rfl rfl rfl rfl (wrap_in (by simp only [lo, hi]; omega))) ?_)
      | (refine s_k 25 rfl ?_; first | refine s_val rfl rfl rfl (r_ixN tb rfl rfl rfl rfl (by omega)) ?_ | refine s_val rfl rfl rfl (r_ixA tb rfl rfl rfl rfl (by omega) (by omega)) ?_ | refine s_val rfl rfl rfl (r_ixO tb rfl rfl rfl rfl (by omega)) ?_)
      | (refine s_k 9 rfl ?_; (first | refine s_st1 tb rfl rfl rfl rfl rfl rfl rfl rfl ?_ | refine s_stA tb rfl rfl rfl rfl (by first | rfl | assumption | (apply Pv.size; assumption)) rfl rfl ?_); (first | refine' st0 ?qs ?_ | refine' st1 ?qs ?_ | refine' st2 ?qs ?_ | refine' st3 ?qs ?_ | refine' st4 ?qs ?_ | refine' st5 ?qs ?_ | refine' st6 ?qs ?_ | refine' st7 ?qs ?_ | refine' st8 ?qs ?_ | refine' st9 ?qs ?_ | refine' st10 ?qs ?_ | refine' st11 ?qs ?_); (case qs => (first | exact zSet)))
      | (refine s_k 36 rfl ?_; refine s_val rfl rfl rfl (r_len tb rfl rfl rfl) ?_)
      | refine s_nil ?_)
      | (refine c_g ?_; first | refine c_seq ?_ | refine c_region ?_ | (refine c_gc ?_; first | refine c_cond1 rfl zTr ?_ | refine c_cond0 rfl zTr ?_ | refine z_condd1 rfl ?_ | refine z_condd0 rfl ?_ | refine z_conddn1 rfl ?_ | refine z_conddn0 rfl ?_ | refine c_condd rfl (fun hc => ?_) (fun hc => ?_) | refine c_conddn rfl (fun hc => ?_) (fun hc => ?_) | refine c_condn rfl (fun hc => ?_) (fun hc => ?_) | refine c_cond rfl (fun hc => ?_) (fun hc => ?_)) | refine c_block ?_ | refine c_skip ?_ | refine c_exit ?_ | refine c_ret ?_)
      | (refine e_g ?_; first | refine e_then ?_ | refine e_blkn ?_ | refine e_thenx ?_ | refine e_thenr ?_ | refine e_blkr ?_ | refine e_blkx ?_ | refine e_blky rfl ?_)
      | (refine e_ret1 (by simp) rfl (re_tmp rfl) fun w hL => ⟨rfl, _, ⟨hsz, hM⟩, Upd.of hL m0⟩))
theorem markGoatS_z (k0 : Nat) (z : Int) (hz : (k0 : Int) = z) (n cap g : Nat) (cur : Array Value) (w : World) (hs : n * 7 ≤ cur.size) (hg : w.heap[g]? = some (.cells cur 102 (0, 0))) (hn : n ≤ 1048576) (hk0 : k0 ≤ 100000000) :
    Calls Try.prog 39 #[.slice (some ⟨g, 0, none⟩) n cap, .int .i64 z] w fun e w' => e = .returned (.int .i64 (z + ((n * 7 : Nat) : Int))) ∧ ∃ cs', (cs'.size = cur.size ∧ Mkd (mkG k0) cs' (n * 7)) ∧ Upd w w' g 102 cs' := by
  subst hz; exact markGoatS_any k0 n cap g cur w hs hg hn hk0
end Go.Proofs.Ytpifngdmlmfnhaa
