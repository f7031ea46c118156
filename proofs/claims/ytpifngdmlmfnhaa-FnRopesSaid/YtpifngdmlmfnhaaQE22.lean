import Derived.Test.YtpifngdmlmfnhaaQE18
import Derived.Test.YtpifngdmlmfnhaaQE19
import Derived.Test.YtpifngdmlmfnhaaQE21
/- A pasture that is drawn is valid: the reference's. No condition but few picks. -/
namespace Go.Proofs.Ytpifngdmlmfnhaa.Wk
set_option linter.unusedVariables false
set_option linter.unusedSimpArgs false
open Go Go.RowKit Mem Calm
variable {P : Program} {n : Nat} {O : List Nat} {w0 : World} {l : List (Nat × Value)} {N L : List (Nat × TypeId × Array Value)} {Q : Exit → Act → World → Prop} {ops : Array Oper} {o : Oper} {rest : List Oper} {kk d : Nat} {v : Value} {x y : Operand} {Nok : List (Nat × TypeId × Array Value) → Prop} {pl : Nat → CalmE.Plan (List (Nat × TypeId × Array Value))}
theorem z_writeD1 {b0 : Nat × TypeId × Array Value} {g : Nat} {T : TypeId} {c c' : Array Value} {f : FuncId} {fn : Func} {xs : Array Operand} {ts : Array TypeId} {vs : List Value} (hf : P.funcs[f]? = some fn) (hname : (fn.name == "runtime.NumGoroutine") = false) (hb : fn.body.isSome = true) (hg : o.guard = none) (hd : o.dst = some d) (hn : Nat.blt d n = true)
    (hop : o.op = .call { callee := .value (.func f), args := xs, argTypes := ts }) (hargs : evs l xs.toList = some vs)
    (hc : ∀ w, Kn O w0 w (b0 :: (g, T, c) :: L) → w.heap[g]? = some (.cells c T (0, 0)) → Calls P f vs.toArray w fun e w' => e = .returned v ∧ Upd w w' g T c') (hok : ∀ N, Nok N) (hp : pl kk = .inr (fun v' N'' => ∃ i : Unit, True ∧ v' = v ∧ N'' = [b0, (g, T, c')])) (h : Z P ops Q n O w0 Nok pl rest (kk + 1) ((d, v) :: l) [b0, (g, T, c')] L) : Z P ops Q n O w0 Nok pl (o :: rest) kk l [b0, (g, T, c)] L :=
  z_write (ι := Unit) (fun _ => True) (fun _ => v) (fun _ => [b0, (g, T, c')]) hf hname hb hg hd hn hop hargs (fun w hL => (hc w hL (hL.at_ (List.mem_cons_of_mem _ List.mem_cons_self))).mono fun e w' ⟨he, hu⟩ => ⟨(), trivial, he, Kn.upd (i := 1) hL rfl hu⟩) ⟨(), trivial⟩ (fun _ _ => hok _) hp (fun _ _ => h)
end Go.Proofs.Ytpifngdmlmfnhaa.Wk
namespace Go.Proofs.Ytpifngdmlmfnhaa
set_option linter.unusedVariables false
set_option linter.unusedSimpArgs false
open Go.RowKit Mem Wk
theorem Wk.c_perm {P : Program} {Q : Exit → Act → World → Prop} {n : Nat} {O : List Nat} {w0 : World} {c : Code} {l : List (Nat × Value)} {L L' : List (Nat × TypeId × Array Value)} (hp : L.Perm L') (h : C P Q n O w0 c l L') : C P Q n O w0 c l L := fun a w hF hL => h a w hF (Kn.perm hL hp)
attribute [local irreducible] Calls Wk.S Wk.C Wk.E Wk.X Wk.T Wk.Y Wk.Z Wk.anV Wk.orV Wk.andV Wk.shlV Wk.shrV Calm.wpLex CalmB.wpLex CalmE.wpLex
theorem bPasW (a : Int) (w : World) : (Instr.build 34 #[(0, .int .i8 a)]).run Try.prog w = .ok (.agg (zP.setIfInBounds 0 (.int .i8 a))) w := by kernel_rfl
theorem Pv.setDim {p : Nat → Int} {cs : Array Value} {i : Nat} {v : Int} (hp : Pv p cs) (h : i < 2) (h3 : -128 ≤ v ∧ v ≤ 127) : Pv (upd p i v) (cs.setIfInBounds i (.int .i8 v)) := by
  refine ⟨by simp [hp.size], fun j hj => ?_, fun j hj => ?_, fun j h1 h' => by rw [upd_ne _ _ (by omega)]; exact hp.i16 j h1 h', fun j h1 h' => by rw [upd_ne _ _ (by omega)]; exact hp.u16 j h1 h'⟩
  · by_cases e : j = i
    · subst e
      rw [upd_at]
      have hs := hp.size
      have hk : pk j = .i8 := by unfold pk; rw [if_pos h]
      rw [hk]
      simp [hs, hj]
    · rw [upd_ne _ _ e, Array.getElem?_setIfInBounds_ne (by omega)]
      exact hp.get j hj
  · by_cases e : j = i
    · subst e; rw [upd_at]; exact h3
    · rw [upd_ne _ _ e]; exact hp.i8 j hj
/-- what is drawn so far -/
structure Dr (W H : Int) (b : Int) (q : Nat → Int) (c : Array Value) (at_ : Int) : Prop where
  pv : Pv q c
  val : validP q = true
  w : q 0 = W
  h : q 1 = H
  lo0 : 0 ≤ at_
  hi0 : at_ ≤ b
set_option maxRecDepth 100000 in
set_option maxHeartbeats 3200000 in
theorem drawn_any (bs : List Int) (A : Option Addr) (cap gs : Nat) (at_ seed : Int) (w : World) (hS : SlA [gs] w 1 A (byC bs)) (hb : ∀ b ∈ bs, 0 ≤ b ∧ b ≤ 255) (hn : bs.length ≤ 1048576) (h0 : 0 ≤ at_) (h1 : at_ ≤ 1000000) (hg : w.heap[gs]? = some (.cells (srcC A bs.length cap at_ seed) 263 (0, 0))) :
    Calls Try.prog 154 #[.pointer (some ⟨gs, 0, none⟩)] w fun e w' => ∃ i : (Nat → Int) × Array Value × Int × Int, (Pv i.1 i.2.1 ∧ validP i.1 = true ∧ small i.1 ∧ 0 ≤ i.2.2.1 ∧ i.2.2.1 ≤ at_ + 200) ∧ e = .returned (.agg i.2.1) ∧ Upd w w' gs 263 (srcC A bs.length cap i.2.2.1 i.2.2.2) := by
  have hpk := fun w at2 sd2 n hS ha hb2 hg => pick_any bs A cap gs at2 sd2 n w hS hb hn ha hb2 hg
  have hon := fun w at2 sd2 n hS ha hb2 hg => one_any bs A cap gs at2 sd2 n w hS hb hn ha hb2 hg
  have hok := fun n at2 sd2 ha => pkV_ok hb n at2 sd2 ha
  generalize pkV bs = pk at *
  have k1 := hok 5 at_ seed h0
  have p1 := fun w hS hg => hpk w at_ seed 5 hS h0 (by omega) hg
  rcases hq1 : pk 5 at_ seed with ⟨r1, at1, sd1⟩
  simp only [hq1] at k1 p1
  have k2 := hok 5 at1 sd1 (by omega)
  have p2 := fun w hS hg => hpk w at1 sd1 5 hS (by omega) (by omega) hg
  rcases hq2 : pk 5 at1 sd1 with ⟨r2, at2, sd2⟩
  simp only [hq2] at k2 p2
  have k3 := hok 5 at2 sd2 (by omega)
  have p3 := fun w hS hg => hpk w at2 sd2 5 hS (by omega) (by omega) hg
  rcases hq3 : pk 5 at2 sd2 with ⟨r3, at3, sd3⟩
  simp only [hq3] at k3 p3
  clear hq1 hq2 hq3
  obtain ⟨W, hW⟩ : ∃ W : Nat, 1 + r1 = (W : Int) := ⟨(1 + r1).toNat, by omega⟩
  obtain ⟨H, hH⟩ : ∃ H : Nat, 1 + r2 = (H : Int) := ⟨(1 + r2).toNat, by omega⟩
  have hW5 : 1 ≤ W ∧ W ≤ 5 := by omega
  have hH5 : 1 ≤ H ∧ H ≤ 5 := by omega
  have hwW : IntKind.i8.wrap (1 + r1) = (W : Int) := by rw [hW]; exact wrap_in (by simp only [Wk.lo, Wk.hi]; omega)
  have hwH : IntKind.i8.wrap (1 + r2) = (H : Int) := by rw [hH]; exact wrap_in (by simp only [Wk.lo, Wk.hi]; omega)
  have hPW : Pv (upd (fun _ => 0) 0 (W : Int)) (zP.setIfInBounds 0 (.int .i8 (W : Int))) := zP_pv.setDim (by omega) (by omega)
  have hPH := hPW.setDim (i := 1) (v := (H : Int)) (by omega) (by omega)
  have hsz1 := hPW.size
  have hsm : small (upd (upd (fun _ => 0) 0 (W : Int)) 1 (H : Int)) := by
    unfold small
    rw [upd_at, upd_ne _ _ (by omega : 0 ≠ 1), upd_at]
    omega
  have hval0 := valid_0 hsm (fun i hi => by rw [upd_ne _ _ (by omega), upd_ne _ _ (by omega)])
  have hq0 : upd (upd (fun _ => 0) 0 (W : Int)) 1 (H : Int) 0 = (W : Int) := by rw [upd_ne _ _ (by omega : 0 ≠ 1), upd_at]
  have hq1 : upd (upd (fun _ => 0) 0 (W : Int)) 1 (H : Int) 1 = (H : Int) := upd_at _ _ _
  generalize upd (upd (fun _ => 0) 0 (W : Int)) 1 (H : Int) = q0 at *
  refine enter1 Try.func154 rfl rfl rfl (Own.startAt w hg) ?_
  repeat' (first
    | (refine s_g ?_; first
      | (refine s_gd rfl ?_; first | refine s_gd1 rfl rfl zTr ?_ | refine s_gd0 rfl rfl rfl zTr ?_ | refine s_gd00 rfl rfl zTr ?_ | refine s_gp1 rfl rfl rfl (fun hc => ?_) (fun hc => ?_) | refine s_gp0 rfl rfl rfl (fun hc => ?_) (fun hc => ?_) | refine s_gnp1 rfl rfl rfl (fun hc => ?_) (fun hc => ?_) | refine s_gnp0 rfl rfl rfl (fun hc => ?_) (fun hc => ?_) | refine s_gb1 rfl rfl rfl (fun hc => ?_) (fun hc => ?_) | refine s_gb0 rfl rfl rfl (fun hc => ?_) (fun hc => ?_) | refine s_gnb1 rfl rfl rfl (fun hc => ?_) (fun hc => ?_) | refine s_gnb0 rfl rfl rfl (fun hc => ?_) (fun hc => ?_))
      | (refine s_k 0 rfl ?_; refine s_val rfl rfl rfl (r_move rfl rfl) ?_)
      | (refine s_k 23 rfl ?_; first | refine s_val rfl rfl rfl (r_field tb rfl rfl rfl) ?_ | refine s_val rfl rfl rfl (r_fieldS tb rfl rfl rfl) ?_)
      | (refine s_k 8 rfl ?_; first | (refine' s_val rfl rfl rfl (r_ldv rfl rfl ?qm ?qv) ?_; (case qm => (exact zMm)); (case qv => (exact zLe))) | (refine' s_val rfl rfl rfl (r_ldo rfl rfl ?qw (by simp) ?qv) ?_; (case qw => assumption); (case qv => (exact zLe))))
      | (refine s_k 1 rfl ?_; refine s_val rfl rfl rfl (r_assign rfl rfl) ?_)
      | (refine s_k 13 rfl ?_; first | refine s_val rfl rfl rfl (r_lss rfl rfl rfl) ?_ | refine s_val rfl rfl rfl (r_add rfl rfl rfl (wrap_in (by simp only [lo, hi]; omega))) ?_ | refine s_val rfl rfl rfl (r_leq rfl rfl rfl) ?_)
      | (refine s_k 35 rfl ?_; first | (refine s_callM1 Try.func156 (by kernel_rfl) rfl rfl rfl rfl rfl rfl (fun w hL hg => p1 w (hS.at_ hL) hg) fun cs5 hcs5 => ?_; subst hcs5) | (refine s_callM2 Try.func156 (by kernel_rfl) rfl rfl rfl rfl rfl rfl (fun w hL hg => p2 w (hS.at_ hL) hg) fun cs5 hcs5 => ?_; subst hcs5) | (refine s_callM2 Try.func156 (by kernel_rfl) rfl rfl rfl rfl rfl rfl (fun w hL hg => p3 w (hS.at_ hL) hg) fun cs5 hcs5 => ?_; subst hcs5))
      | (refine s_k 15 rfl ?_; first | refine s_val rfl rfl rfl (r_conv tb rfl rfl rfl rfl hwW) ?_ | refine s_val rfl rfl rfl (r_conv tb rfl rfl rfl rfl hwH) ?_ | refine s_val rfl rfl rfl (r_conv tb rfl rfl rfl rfl (wrap_in (by simp only [lo, hi]; omega))) ?_)
      | (refine s_k 2 rfl ?_; first | refine s_val rfl rfl rfl (r_pick1 rfl rfl zTr rfl) ?_ | refine s_val rfl rfl rfl (r_pick0 rfl rfl zTr rfl) ?_)
      | (refine s_k 25 rfl ?_; first | refine s_val rfl rfl rfl (r_ixN tb rfl rfl rfl rfl (by omega)) ?_ | refine s_val rfl rfl rfl (r_ixA tb rfl rfl rfl rfl (by omega) (by omega)) ?_ | refine s_val rfl rfl rfl (r_ixO tb rfl rfl rfl rfl (by omega)) ?_)
      | (refine s_k 9 rfl ?_; (first | refine s_st1 tb rfl rfl rfl rfl rfl rfl rfl rfl ?_ | refine s_stA tb rfl rfl rfl rfl (by first | rfl | assumption | (apply Pv.size; assumption)) rfl rfl ?_); (first | refine' st0 ?qs ?_ | refine' st1 ?qs ?_ | refine' st2 ?qs ?_ | refine' st3 ?qs ?_ | refine' st4 ?qs ?_ | refine' st5 ?qs ?_ | refine' st6 ?qs ?_ | refine' st7 ?qs ?_ | refine' st8 ?qs ?_ | refine' st9 ?qs ?_ | refine' st10 ?qs ?_ | refine' st11 ?qs ?_); (case qs => (first | exact setP hPW rfl | exact set_one (by omega) rfl | exact zSet)); (first | (refine absP0 hPH fun c3 hc3 => ?_) | skip))
      | (refine s_k 3 rfl ?_; refine s_allocA (t := 34) rfl zImplPas rfl rfl rfl fun blk => ?_)
      | (refine s_k 5 rfl ?_; refine s_val rfl rfl rfl (r_build rfl rfl (fun w => bPasW _ w)) ?_)
      | refine s_nil ?_)
    | (refine c_g ?_; first | refine c_seq ?_ | refine c_region ?_ | (refine c_gc ?_; first | refine c_cond1 rfl zTr ?_ | refine c_cond0 rfl zTr ?_ | refine z_condd1 rfl ?_ | refine z_condd0 rfl ?_ | refine z_conddn1 rfl ?_ | refine z_conddn0 rfl ?_ | refine c_condd rfl (fun hc => ?_) (fun hc => ?_) | refine c_conddn rfl (fun hc => ?_) (fun hc => ?_) | refine c_condn rfl (fun hc => ?_) (fun hc => ?_) | refine c_cond rfl (fun hc => ?_) (fun hc => ?_)) | refine c_block ?_ | refine c_skip ?_ | refine c_exit ?_ | refine c_ret ?_)
    | (refine e_g ?_; first | refine e_then ?_ | refine e_blkn ?_ | refine e_thenx ?_ | refine e_thenr ?_ | refine e_blkr ?_ | refine e_blkx ?_ | refine e_blky rfl ?_))
  rename_i b2
  have hmany : 0 ≤ 2 + r3 ∧ 2 + r3 ≤ 7 := by omega
  generalize 2 + r3 = many at *
  refine c_perm (List.Perm.cons _ (List.Perm.swap _ _ _)) ?_
  refine c_loop (ι := Nat × (Nat → Int) × Array Value × Int × Int) (fun i => H - i.1) (fun i => i.1 ≤ H ∧ Dr W H (at_ + 6 + i.1 * 30) i.2.1 i.2.2.1 i.2.2.2.1) (fun i => [(5, .int .i8 (i.1 : Int)), (4, .int .i64 many), (3, .pointer (some ⟨blk, 0, none⟩)), (2, .pointer (some ⟨b2, 0, none⟩)), (0, .pointer (some ⟨gs, 0, none⟩))]) (fun i => [(blk, 34, i.2.2.1), (gs, 263, srcC A bs.length cap i.2.2.2.1 i.2.2.2.2), (b2, 34, zP)]) (0, q0, c3, at3, sd3) ⟨by simp, ⟨hc3, hval0, hq0, hq1, by simp only; omega, by simp only; omega⟩⟩ ?hs rfl ?_
  case hs => (repeat' (first | exact sub_nil | refine sub_cons rfl ?_))
  rintro ⟨y, q, c, at4, sd4⟩ ⟨hy, hD⟩
  simp only at hy hD ⊢
  have g0 := hD.pv.g0
  have g1 := hD.pv.g1
  rw [hD.w] at g0; rw [hD.h] at g1
  by_cases hlt : y < H
  · repeat' (first
      | (refine s_g ?_; first
      | (refine s_gd rfl ?_; first | refine s_gd1 rfl rfl zTr ?_ | refine s_gd0 rfl rfl rfl zTr ?_ | refine s_gd00 rfl rfl zTr ?_ | refine s_gp1 rfl rfl rfl (fun hc => ?_) (fun hc => ?_) | refine s_gp0 rfl rfl rfl (fun hc => ?_) (fun hc => ?_) | refine s_gnp1 rfl rfl rfl (fun hc => ?_) (fun hc => ?_) | refine s_gnp0 rfl rfl rfl (fun hc => ?_) (fun hc => ?_) | refine s_gb1 rfl rfl rfl (fun hc => ?_) (fun hc => ?_) | refine s_gb0 rfl rfl rfl (fun hc => ?_) (fun hc => ?_) | refine s_gnb1 rfl rfl rfl (fun hc => ?_) (fun hc => ?_) | refine s_gnb0 rfl rfl rfl (fun hc => ?_) (fun hc => ?_))
      | (refine s_k 0 rfl ?_; refine s_val rfl rfl rfl (r_move rfl rfl) ?_)
      | (refine s_k 23 rfl ?_; first | refine s_val rfl rfl rfl (r_field tb rfl rfl rfl) ?_ | refine s_val rfl rfl rfl (r_fieldS tb rfl rfl rfl) ?_)
      | (refine s_k 8 rfl ?_; first | (refine' s_val rfl rfl rfl (r_ldv rfl rfl ?qm ?qv) ?_; (case qm => (exact zMm)); (case qv => (first | exact ldvL tb rfl rfl | exact ldv1 tb rfl (by assumption) | exact ldv1 tb rfl (g0) | exact ldv1 tb rfl (g1) | exact zLd))) | (refine' s_val rfl rfl rfl (r_ldo rfl rfl ?qw (by simp) ?qv) ?_; (case qw => assumption); (case qv => (first | exact ldvL tb rfl rfl | exact ldv1 tb rfl (by assumption) | exact ldv1 tb rfl (g0) | exact ldv1 tb rfl (g1) | exact zLd))))
      | (refine s_k 1 rfl ?_; refine s_val rfl rfl rfl (r_assign rfl rfl) ?_)
      | (refine s_k 13 rfl ?_; first | refine s_val rfl rfl rfl (r_lss rfl rfl rfl) ?_ | refine s_val rfl rfl rfl (r_add rfl rfl rfl (wrap_in (by simp only [lo, hi]; omega))) ?_ | refine s_val rfl rfl rfl (r_leq rfl rfl rfl) ?_)
      | (refine s_k 15 rfl ?_; refine s_val rfl rfl rfl (r_conv tb rfl rfl rfl rfl (wrap_in (by simp only [lo, hi]; omega))) ?_)
      | (refine s_k 2 rfl ?_; first | refine s_val rfl rfl rfl (r_pick1 rfl rfl zTr rfl) ?_ | refine s_val rfl rfl rfl (r_pick0 rfl rfl zTr rfl) ?_)
      | (refine s_k 25 rfl ?_; first | refine s_val rfl rfl rfl (r_ixN tb rfl rfl rfl rfl (by omega)) ?_ | refine s_val rfl rfl rfl (r_ixA tb rfl rfl rfl rfl (by omega) (by omega)) ?_ | refine s_val rfl rfl rfl (r_ixO tb rfl rfl rfl rfl (by omega)) ?_)
      | (refine s_k 9 rfl ?_; (first | refine s_st1 tb rfl rfl rfl rfl rfl rfl rfl rfl ?_ | refine s_stA tb rfl rfl rfl rfl (by first | rfl | assumption | (apply Pv.size; assumption)) rfl rfl ?_); (first | refine' st0 ?qs ?_ | refine' st1 ?qs ?_ | refine' st2 ?qs ?_ | refine' st3 ?qs ?_ | refine' st4 ?qs ?_ | refine' st5 ?qs ?_ | refine' st6 ?qs ?_ | refine' st7 ?qs ?_ | refine' st8 ?qs ?_ | refine' st9 ?qs ?_ | refine' st10 ?qs ?_ | refine' st11 ?qs ?_); (case qs => (first | exact zSet)))
      | refine s_nil ?_)
      | (refine c_g ?_; first | refine c_seq ?_ | refine c_region ?_ | (refine c_gc ?_; first | refine c_cond1 rfl zTr ?_ | refine c_cond0 rfl zTr ?_ | refine z_condd1 rfl ?_ | refine z_condd0 rfl ?_ | refine z_conddn1 rfl ?_ | refine z_conddn0 rfl ?_ | refine c_condd rfl (fun hc => ?_) (fun hc => ?_) | refine c_conddn rfl (fun hc => ?_) (fun hc => ?_) | refine c_condn rfl (fun hc => ?_) (fun hc => ?_) | refine c_cond rfl (fun hc => ?_) (fun hc => ?_)) | refine c_block ?_ | refine c_skip ?_ | refine c_exit ?_ | refine c_ret ?_)
      | (refine e_g ?_; first | refine e_then ?_ | refine e_blkn ?_ | refine e_thenx ?_ | refine e_thenr ?_ | refine e_blkr ?_ | refine e_blkx ?_ | refine e_blky rfl ?_))
    refine c_loop (ι := Nat × (Nat → Int) × Array Value × Int × Int) (fun i => W - i.1) (fun i => i.1 ≤ W ∧ Dr W H (at_ + 6 + y * 30 + i.1 * 6) i.2.1 i.2.2.1 i.2.2.2.1) (fun i => [(6, .int .i8 (i.1 : Int)), (5, .int .i8 (y : Int)), (4, .int .i64 many), (3, .pointer (some ⟨blk, 0, none⟩)), (2, .pointer (some ⟨b2, 0, none⟩)), (0, .pointer (some ⟨gs, 0, none⟩))]) (fun i => [(blk, 34, i.2.2.1), (gs, 263, srcC A bs.length cap i.2.2.2.1 i.2.2.2.2), (b2, 34, zP)]) (0, q, c, at4, sd4) ⟨by simp, ⟨hD.pv, hD.val, hD.w, hD.h, hD.lo0, by have := hD.hi0; simp only; omega⟩⟩ ?hs rfl ?_
    case hs => (repeat' (first | exact sub_nil | refine sub_cons rfl ?_))
    clear hD g0 g1
    rintro ⟨x, q, c, at4, sd4⟩ ⟨hx, hD⟩
    simp only at hx hD ⊢
    have g0 := hD.pv.g0
    have g1 := hD.pv.g1
    rw [hD.w] at g0; rw [hD.h] at g1
    have hl0 := hD.lo0
    have hh0 := hD.hi0
    by_cases hltx : x < W
    · have k4 := hok 12 at4 sd4 hl0
      have p4 := fun w hS hg => hpk w at4 sd4 12 hS hl0 (by omega) hg
      rcases hq4 : pk 12 at4 sd4 with ⟨r4, at5, sd5⟩
      simp only [hq4] at k4 p4
      have hw16 : IntKind.i16.wrap r4 = r4 := wrap_in (by simp only [Wk.lo, Wk.hi]; omega)
      have hcs := hD.pv.size
      have hic : isC (q 0) (q 1) (x : Int) (y : Int) = true := by rw [hD.w, hD.h]; unfold isC inB; simp; omega
      have hG := hD.pv.setGrass (i := 2 + y * 10 + x) (v := r4) (by omega) (by omega) (by omega)
      have hGv := valid_grass hD.val (by omega : x < 10) (by omega : y < 10) hic (v := r4) (by omega) (by omega)
      have hG0 : upd q (2 + y * 10 + x) r4 0 = (W : Int) := by rw [upd_ne _ _ (by omega)]; exact hD.w
      have hG1 : upd q (2 + y * 10 + x) r4 1 = (H : Int) := by rw [upd_ne _ _ (by omega)]; exact hD.h
      have hix : 2 + y * 10 + x = 0 + 2 + y * 10 + x * 1 := by omega
      generalize upd q (2 + y * 10 + x) r4 = q5 at *
      rw [hix] at hG
      repeat' (first
        | (refine s_g ?_; first
      | (refine s_gd rfl ?_; first | refine s_gd1 rfl rfl zTr ?_ | refine s_gd0 rfl rfl rfl zTr ?_ | refine s_gd00 rfl rfl zTr ?_ | refine s_gp1 rfl rfl rfl (fun hc => ?_) (fun hc => ?_) | refine s_gp0 rfl rfl rfl (fun hc => ?_) (fun hc => ?_) | refine s_gnp1 rfl rfl rfl (fun hc => ?_) (fun hc => ?_) | refine s_gnp0 rfl rfl rfl (fun hc => ?_) (fun hc => ?_) | refine s_gb1 rfl rfl rfl (fun hc => ?_) (fun hc => ?_) | refine s_gb0 rfl rfl rfl (fun hc => ?_) (fun hc => ?_) | refine s_gnb1 rfl rfl rfl (fun hc => ?_) (fun hc => ?_) | refine s_gnb0 rfl rfl rfl (fun hc => ?_) (fun hc => ?_))
      | (refine s_k 0 rfl ?_; refine s_val rfl rfl rfl (r_move rfl rfl) ?_)
      | (refine s_k 23 rfl ?_; first | refine s_val rfl rfl rfl (r_field tb rfl rfl rfl) ?_ | refine s_val rfl rfl rfl (r_fieldS tb rfl rfl rfl) ?_)
      | (refine s_k 8 rfl ?_; first | (refine' s_val rfl rfl rfl (r_ldv rfl rfl ?qm ?qv) ?_; (case qm => (exact zMm)); (case qv => (first | exact ldvL tb rfl rfl | exact ldv1 tb rfl (by assumption) | exact ldv1 tb rfl (g0) | exact ldv1 tb rfl (g1) | exact zLd))) | (refine' s_val rfl rfl rfl (r_ldo rfl rfl ?qw (by simp) ?qv) ?_; (case qw => assumption); (case qv => (first | exact ldvL tb rfl rfl | exact ldv1 tb rfl (by assumption) | exact ldv1 tb rfl (g0) | exact ldv1 tb rfl (g1) | exact zLd))))
      | (refine s_k 1 rfl ?_; refine s_val rfl rfl rfl (r_assign rfl rfl) ?_)
      | (refine s_k 13 rfl ?_; first | refine s_val rfl rfl rfl (r_lss rfl rfl rfl) ?_ | refine s_val rfl rfl rfl (r_add rfl rfl rfl (wrap_in (by simp only [lo, hi]; omega))) ?_ | refine s_val rfl rfl rfl (r_leq rfl rfl rfl) ?_)
      | (refine s_k 15 rfl ?_; first | refine s_val rfl rfl rfl (r_conv tb rfl rfl rfl rfl hw16) ?_ | refine s_val rfl rfl rfl (r_conv tb rfl rfl rfl rfl (wrap_in (by simp only [lo, hi]; omega))) ?_)
      | (refine s_k 2 rfl ?_; first | refine s_val rfl rfl rfl (r_pick1 rfl rfl zTr rfl) ?_ | refine s_val rfl rfl rfl (r_pick0 rfl rfl zTr rfl) ?_)
      | (refine s_k 25 rfl ?_; first | refine s_val rfl rfl rfl (r_ixN tb rfl rfl rfl rfl (by omega)) ?_ | refine s_val rfl rfl rfl (r_ixA tb rfl rfl rfl rfl (by omega) (by omega)) ?_ | refine s_val rfl rfl rfl (r_ixO tb rfl rfl rfl rfl (by omega)) ?_)
      | (refine s_k 9 rfl ?_; (first | refine s_st1 tb rfl rfl rfl rfl rfl rfl rfl rfl ?_ | refine s_stA tb rfl rfl rfl rfl (by first | rfl | assumption | (apply Pv.size; assumption)) rfl rfl ?_); (first | refine' st0 ?qs ?_ | refine' st1 ?qs ?_ | refine' st2 ?qs ?_ | refine' st3 ?qs ?_ | refine' st4 ?qs ?_ | refine' st5 ?qs ?_ | refine' st6 ?qs ?_ | refine' st7 ?qs ?_ | refine' st8 ?qs ?_ | refine' st9 ?qs ?_ | refine' st10 ?qs ?_ | refine' st11 ?qs ?_); (case qs => (first | exact set_one (by omega) rfl | exact zSet)))
      | refine s_nil ?_)
        | (refine c_g ?_; first | refine c_seq ?_ | refine c_region ?_ | (refine c_gc ?_; first | refine c_cond1 rfl zTr ?_ | refine c_cond0 rfl zTr ?_ | refine z_condd1 rfl ?_ | refine z_condd0 rfl ?_ | refine z_conddn1 rfl ?_ | refine z_conddn0 rfl ?_ | refine c_condd rfl (fun hc => ?_) (fun hc => ?_) | refine c_conddn rfl (fun hc => ?_) (fun hc => ?_) | refine c_condn rfl (fun hc => ?_) (fun hc => ?_) | refine c_cond rfl (fun hc => ?_) (fun hc => ?_)) | refine c_block ?_ | refine c_skip ?_ | refine c_exit ?_ | refine c_ret ?_)
        | (refine e_g ?_; first | refine e_then ?_ | refine e_blkn ?_ | refine e_thenx ?_ | refine e_thenr ?_ | refine e_blkr ?_ | refine e_blkx ?_ | refine e_blky rfl ?_)
        | (refine z_g ?_; first
      | (refine z_k 0 rfl ?_; (refine' z_val rfl rfl rfl ?hr ?hp ?_; (case hr => exact fun N hN => r_move rfl rfl); (case hp => exact rfl)))
      | (refine z_k 23 rfl ?_; first | (refine' z_val rfl rfl rfl ?hr ?hp ?_; (case hr => exact fun N hN => r_field tb rfl rfl rfl); (case hp => exact rfl)) | (refine' z_val rfl rfl rfl ?hr ?hp ?_; (case hr => exact fun N hN => r_fieldS tb rfl rfl rfl); (case hp => exact rfl)))
      | (refine z_k 8 rfl ?_; first | (refine' z_val rfl rfl rfl ?hr ?hp ?_; (case hr => (intro N hN; (refine' r_ldv rfl rfl ?qm ?qv; (case qm => (first | exact List.mem_append_right _ m0 | exact List.mem_append_right _ m1 | exact List.mem_append_right _ m2 | exact List.mem_append_right _ m3 | exact List.mem_append_right _ m4 | exact List.mem_append_right _ m5 | exact List.mem_append_right _ m6 | exact List.mem_append_right _ m7 | exact List.mem_append_right _ m8 | exact List.mem_append_right _ m9 | exact List.mem_append_right _ m10 | exact List.mem_append_right _ m11)); (case qv => (first | exact ldvL tb rfl rfl | exact ldv1 tb rfl (by assumption) | exact ldv1 tb rfl (g0) | exact ldv1 tb rfl (g1) | exact zLd))))); (case hp => exact rfl)) | (refine' z_val rfl rfl rfl ?hr ?hp ?_; (case hr => (intro N hN; (refine' r_ldo rfl rfl ?qw (by simp) ?qv; (case qw => assumption); (case qv => (first | exact ldvL tb rfl rfl | exact ldv1 tb rfl (by assumption) | exact ldv1 tb rfl (g0) | exact ldv1 tb rfl (g1) | exact zLd))))); (case hp => exact rfl)))
      | (refine z_k 1 rfl ?_; (refine' z_val rfl rfl rfl ?hr ?hp ?_; (case hr => exact fun N hN => r_assign rfl rfl); (case hp => exact rfl)))
      | (refine z_k 13 rfl ?_; first | (refine' z_val rfl rfl rfl ?hr ?hp ?_; (case hr => exact fun N hN => r_lss rfl rfl rfl); (case hp => exact rfl)) | (refine' z_add rfl rfl rfl rfl rfl rfl (wrap_in (by simp only [lo, hi]; omega)) ?hp ?_; (case hp => exact rfl)) | (refine' z_val rfl rfl rfl ?hr ?hp ?_; (case hr => exact fun N hN => r_leq rfl rfl rfl); (case hp => exact rfl)))
      | (refine z_k 35 rfl ?_; (refine' z_writeD1 Try.func156 (by kernel_rfl) rfl rfl rfl rfl rfl rfl (fun w hL hg => (p4 w (hS.at_ hL) hg).mono fun e w' ⟨he, cs', hcs, hu⟩ => ⟨he, hcs ▸ hu⟩) (fun _ => trivial) ?hp ?_; (case hp => exact rfl)))
      | (refine z_k 15 rfl ?_; first | (refine' z_val rfl rfl rfl ?hr ?hp ?_; (case hr => exact fun N hN => r_conv tb rfl rfl rfl rfl hw16); (case hp => exact rfl)) | (refine' z_conv tb rfl rfl rfl rfl rfl rfl rfl (wrap_in (by simp only [lo, hi]; omega)) ?hp ?_; (case hp => exact rfl)))
      | (refine z_k 25 rfl ?_; first | (refine' z_val rfl rfl rfl ?hr ?hp ?_; (case hr => exact fun N hN => r_ixN tb rfl rfl rfl rfl (by omega)); (case hp => exact rfl)) | (refine' z_val rfl rfl rfl ?hr ?hp ?_; (case hr => exact fun N hN => r_ixA tb rfl rfl rfl rfl (by omega) (by omega)); (case hp => exact rfl)) | (refine' z_val rfl rfl rfl ?hr ?hp ?_; (case hr => exact fun N hN => r_ixO tb rfl rfl rfl rfl (by omega)); (case hp => exact rfl)))
      | (refine z_k 9 rfl ?_; first | (refine' z_put (i := 0) tb rfl rfl rfl rfl rfl rfl rfl (by first | rfl | assumption | (apply Pv.size; assumption)) rfl ?qs rfl ?hok ?hp ?_; (case qs => (first | exact set_one (by omega) rfl | exact zSet)); (case hok => (first | exact trivial | (trivial))); (case hp => exact rfl)) | (refine' z_put (i := 1) tb rfl rfl rfl rfl rfl rfl rfl (by first | rfl | assumption | (apply Pv.size; assumption)) rfl ?qs rfl ?hok ?hp ?_; (case qs => (first | exact set_one (by omega) rfl | exact zSet)); (case hok => (first | exact trivial | (trivial))); (case hp => exact rfl)) | (refine' z_put (i := 2) tb rfl rfl rfl rfl rfl rfl rfl (by first | rfl | assumption | (apply Pv.size; assumption)) rfl ?qs rfl ?hok ?hp ?_; (case qs => (first | exact set_one (by omega) rfl | exact zSet)); (case hok => (first | exact trivial | (trivial))); (case hp => exact rfl)) | (refine' z_put (i := 3) tb rfl rfl rfl rfl rfl rfl rfl (by first | rfl | assumption | (apply Pv.size; assumption)) rfl ?qs rfl ?hok ?hp ?_; (case qs => (first | exact set_one (by omega) rfl | exact zSet)); (case hok => (first | exact trivial | (trivial))); (case hp => exact rfl)))
      | refine z_nil ?_)
        | (refine' c_drawZ0_1 (id := 10) [false, false, false, true, false, false, false, false, true] (fun _ => True) [(Sum.inl _ : CalmE.Plan (List (Nat × TypeId × Array Value))), (Sum.inl _ : CalmE.Plan (List (Nat × TypeId × Array Value))), (Sum.inl _ : CalmE.Plan (List (Nat × TypeId × Array Value))), (Sum.inr _ : CalmE.Plan (List (Nat × TypeId × Array Value))), (Sum.inl _ : CalmE.Plan (List (Nat × TypeId × Array Value))), (Sum.inl _ : CalmE.Plan (List (Nat × TypeId × Array Value))), (Sum.inl _ : CalmE.Plan (List (Nat × TypeId × Array Value))), (Sum.inl _ : CalmE.Plan (List (Nat × TypeId × Array Value))), (Sum.inr _ : CalmE.Plan (List (Nat × TypeId × Array Value)))] (by kernel_rfl) (by kernel_rfl) (by kernel_rfl) (by simp only [CalmE.Agree, and_self, true_and, and_true]) (trivial) ?_))
      generalize hc6 : c.setIfInBounds (0 + 2 + y * 10 + x * 1) (.int .i16 r4) = c6 at *
      refine c_loop (ι := Nat × (Nat → Int) × Array Value × Int × Int) (fun i => 3 - i.1) (fun i => (1 ≤ i.1 ∧ i.1 ≤ 3) ∧ Dr W H (at_ + 6 + y * 30 + x * 6 + i.1 * 2) i.2.1 i.2.2.1 i.2.2.2.1) (fun i => [(7, .int .i64 (i.1 : Int)), (6, .int .i8 (x : Int)), (5, .int .i8 (y : Int)), (4, .int .i64 many), (3, .pointer (some ⟨blk, 0, none⟩)), (2, .pointer (some ⟨b2, 0, none⟩)), (0, .pointer (some ⟨gs, 0, none⟩))]) (fun i => [(blk, 34, i.2.2.1), (gs, 263, srcC A bs.length cap i.2.2.2.1 i.2.2.2.2), (b2, 34, zP)]) (1, q5, c6, at5, sd5) ⟨by simp, ⟨hG, hGv, hG0, hG1, by simp only; omega, by simp only; omega⟩⟩ ?hs rfl ?_
      case hs => (repeat' (first | exact sub_nil | refine sub_cons rfl ?_))
      clear hD g0 g1 hG hGv hG0 hG1 hc6 hl0 hh0 hic
      rintro ⟨side, q, c, at4, sd4⟩ ⟨hside, hD⟩
      simp only at hside hD ⊢
      have g0 := hD.pv.g0
      have g1 := hD.pv.g1
      rw [hD.w] at g0; rw [hD.h] at g1
      have hl0 := hD.lo0
      have hh0 := hD.hi0
      by_cases hls : side < 3
      · have hw10 : q 0 ≤ 10 := by rw [hD.w]; omega
        have hh10 : q 1 ≤ 10 := by rw [hD.h]; omega
        have hsd : 0 ≤ (side : Int) ∧ (side : Int) ≤ 3 := by omega
        have hs12 : side = 1 ∨ side = 2 := by omega
        obtain ⟨s, hsof, hhx, hhy, hhs⟩ : ∃ s : Bool, sdOf s = (side : Int) ∧ hdX (x : Int) side = x ∧ hdY (y : Int) side = y ∧ hdS side = s := by
          rcases hs12 with rfl | rfl
          · exact ⟨false, rfl, rfl, rfl, rfl⟩
          · exact ⟨true, rfl, rfl, rfl, rfl⟩
        have hnr : (-1 ≤ nextX (x : Int) side ∧ nextX (x : Int) side ≤ 10) ∧ -1 ≤ nextY (y : Int) side ∧ nextY (y : Int) side ≤ 10 := by
          rcases hs12 with rfl | rfl <;> simp [nextX, nextY] <;> omega
        have hnext := fun w => l01Next_any (x : Int) (y : Int) side w (by omega) (by omega)
        have his := fun w T g hg => l01Is_any q c T g (nextX (x : Int) side) (nextY (y : Int) side) w hD.pv hg hw10 hh10 (by omega) (by omega)
        have hset := fun w g hg => l01Set_any q c g (x : Int) (y : Int) side true w hD.pv hg (by omega) (by omega) hsd (by rw [hhx, hhy]; omega)
        rw [hhx, hhy, hhs] at hset
        have hisH : isC (q 0) (q 1) (nextX (x : Int) side) (nextY (y : Int) side) = true → isH q ⟨(x : Int), (y : Int), s⟩ = true := fun h => by
          unfold isH
          simp only [hsof]
          rw [h, hD.w, hD.h]
          unfold isC inB; simp; omega
        have hsmq : small q := by unfold small; rw [hD.w, hD.h]; omega
        have hvput := fun h => valid_put hD.val hsmq (hisH h)
        have hput0 : putP q (x : Int) (y : Int) s true 0 = (W : Int) := by rw [putP_keep _ _ _ _ _ (by omega)]; exact hD.w
        have hput1 : putP q (x : Int) (y : Int) s true 1 = (H : Int) := by rw [putP_keep _ _ _ _ _ (by omega)]; exact hD.h
        generalize putP q (x : Int) (y : Int) s true = q7 at *
        generalize nextX (x : Int) side = nx at *
        generalize nextY (y : Int) side = ny at *
        cases hic : isC (q 0) (q 1) nx ny
        case false =>
          rw [hic] at his
          have hD2 : Dr W H (at_ + 6 + y * 30 + x * 6 + (side + 1 : Nat) * 2) q c at4 := ⟨hD.pv, hD.val, hD.w, hD.h, hl0, by omega⟩
          repeat' (first
            | (refine s_g ?_; first
      | (refine s_gd rfl ?_; first | refine s_gd1 rfl rfl zTr ?_ | refine s_gd0 rfl rfl rfl zTr ?_ | refine s_gd00 rfl rfl zTr ?_ | refine s_gdu rfl rfl rfl ?_ | refine s_gp1 rfl rfl rfl (fun hc => ?_) (fun hc => ?_) | refine s_gp0 rfl rfl rfl (fun hc => ?_) (fun hc => ?_) | refine s_gnp1 rfl rfl rfl (fun hc => ?_) (fun hc => ?_) | refine s_gnp0 rfl rfl rfl (fun hc => ?_) (fun hc => ?_) | refine s_gb1 rfl rfl rfl (fun hc => ?_) (fun hc => ?_) | refine s_gb0 rfl rfl rfl (fun hc => ?_) (fun hc => ?_) | refine s_gnb1 rfl rfl rfl (fun hc => ?_) (fun hc => ?_) | refine s_gnb0 rfl rfl rfl (fun hc => ?_) (fun hc => ?_))
      | (refine s_k 0 rfl ?_; refine s_val rfl rfl rfl (r_move rfl rfl) ?_)
      | (refine s_k 23 rfl ?_; first | refine s_val rfl rfl rfl (r_field tb rfl rfl rfl) ?_ | refine s_val rfl rfl rfl (r_fieldS tb rfl rfl rfl) ?_)
      | (refine s_k 8 rfl ?_; first | (refine' s_val rfl rfl rfl (r_ldv rfl rfl ?qm ?qv) ?_; (case qm => (exact zMm)); (case qv => (first | exact ldvL tb rfl rfl | exact ldv1 tb rfl (by assumption) | exact ldv1 tb rfl (g0) | exact ldv1 tb rfl (g1) | exact zLd))) | (refine' s_val rfl rfl rfl (r_ldo rfl rfl ?qw (by simp) ?qv) ?_; (case qw => assumption); (case qv => (first | exact ldvL tb rfl rfl | exact ldv1 tb rfl (by assumption) | exact ldv1 tb rfl (g0) | exact ldv1 tb rfl (g1) | exact zLd))))
      | (refine s_k 1 rfl ?_; refine s_val rfl rfl rfl (r_assign rfl rfl) ?_)
      | (refine s_k 13 rfl ?_; first | refine s_val rfl rfl rfl (r_lss rfl rfl rfl) ?_ | refine s_val rfl rfl rfl (r_add rfl rfl rfl (wrap_in (by simp only [lo, hi]; omega))) ?_ | refine s_val rfl rfl rfl (r_leq rfl rfl rfl) ?_)
      | (refine s_k 35 rfl ?_; first | (refine s_call Try.func214 (by kernel_rfl) rfl rfl rfl rfl rfl rfl (fun w hL => hnext w) ?_) | (refine s_call Try.func201 (by kernel_rfl) rfl rfl rfl rfl rfl rfl (fun w hL => his w _ _ (hL.at_ m1)) ?_))
      | (refine s_k 15 rfl ?_; refine s_val rfl rfl rfl (r_conv tb rfl rfl rfl rfl (wrap_in (by simp only [lo, hi]; omega))) ?_)
      | (refine s_k 2 rfl ?_; first | refine s_val rfl rfl rfl (r_pick1 rfl rfl zTr rfl) ?_ | refine s_val rfl rfl rfl (r_pick0 rfl rfl zTr rfl) ?_)
      | (refine s_k 25 rfl ?_; first | refine s_val rfl rfl rfl (r_ixN tb rfl rfl rfl rfl (by omega)) ?_ | refine s_val rfl rfl rfl (r_ixA tb rfl rfl rfl rfl (by omega) (by omega)) ?_ | refine s_val rfl rfl rfl (r_ixO tb rfl rfl rfl rfl (by omega)) ?_)
      | (refine s_k 9 rfl ?_; (first | refine s_st1 tb rfl rfl rfl rfl rfl rfl rfl rfl ?_ | refine s_stA tb rfl rfl rfl rfl (by first | rfl | assumption | (apply Pv.size; assumption)) rfl rfl ?_); (first | refine' st0 ?qs ?_ | refine' st1 ?qs ?_ | refine' st2 ?qs ?_ | refine' st3 ?qs ?_ | refine' st4 ?qs ?_ | refine' st5 ?qs ?_ | refine' st6 ?qs ?_ | refine' st7 ?qs ?_ | refine' st8 ?qs ?_ | refine' st9 ?qs ?_ | refine' st10 ?qs ?_ | refine' st11 ?qs ?_); (case qs => (first | exact set_whole (vs := #[.int .i8 (x : Int), .int .i8 (y : Int)]) rfl (by simp [Value.oneCell']) | exact zSet)))
      | (refine s_k 3 rfl ?_; refine s_allocA (t := 88) rfl zImplSpot rfl rfl rfl fun blk => ?_)
      | (refine s_k 5 rfl ?_; refine s_val rfl rfl rfl (r_build rfl rfl (fun w => bSpot _ _ rfl rfl w)) ?_)
      | refine s_nil ?_)
            | (refine c_g ?_; first | refine c_seq ?_ | refine c_region ?_ | (refine c_gc ?_; first | refine c_cond1 rfl zTr ?_ | refine c_cond0 rfl zTr ?_ | refine z_condd1 rfl ?_ | refine z_condd0 rfl ?_ | refine z_conddn1 rfl ?_ | refine z_conddn0 rfl ?_ | refine c_condd rfl (fun hc => ?_) (fun hc => ?_) | refine c_conddn rfl (fun hc => ?_) (fun hc => ?_) | refine c_condn rfl (fun hc => ?_) (fun hc => ?_) | refine c_cond rfl (fun hc => ?_) (fun hc => ?_)) | refine c_block ?_ | refine c_skip ?_ | refine c_exit ?_ | refine c_ret ?_)
            | (refine e_g ?_; first | refine e_then ?_ | refine e_blkn ?_ | refine e_thenx ?_ | refine e_thenr ?_ | refine e_blkr ?_ | refine e_blkx ?_ | refine e_blky rfl ?_)
            | (refine e_drop1 (T := 263) (cs := srcC A bs.length cap at4 sd4) (by simp) (e_round (side + 1, q, c, at4, sd4) (by simp; omega) ⟨by simp; omega, hD2⟩ ?_ rfl)))
          all_goals (repeat' (first | exact sub_nil | refine sub_cons rfl ?_))
        case true =>
          rw [hic] at his
          have hv7 := hvput hic
          have k4 := hok many at4 sd4 hl0
          have p4 := fun w hS hg => hon w at4 sd4 many hS hl0 (by omega) hg
          rcases hq4 : pk many at4 sd4 with ⟨r4, at5, sd5⟩
          simp only [hq4] at k4 p4
          by_cases hr : r4 = 0
          · have hD2 : ∀ c7, Pv q7 c7 → Dr W H (at_ + 6 + y * 30 + x * 6 + (side + 1 : Nat) * 2) q7 c7 at5 := fun c7 h => ⟨h, hv7, hput0, hput1, by omega, by omega⟩
            repeat' (first
              | (refine s_g ?_; first
      | (refine s_gd rfl ?_; first | refine s_gd1 rfl rfl zTr ?_ | refine s_gd0 rfl rfl rfl zTr ?_ | refine s_gd00 rfl rfl zTr ?_ | refine s_gp1 rfl rfl rfl (fun hc => ?_) (fun hc => ?_) | refine s_gp0 rfl rfl rfl (fun hc => ?_) (fun hc => ?_) | refine s_gnp1 rfl rfl rfl (fun hc => ?_) (fun hc => ?_) | refine s_gnp0 rfl rfl rfl (fun hc => ?_) (fun hc => ?_) | refine s_gb1 rfl rfl rfl (fun hc => ?_) (fun hc => ?_) | refine s_gb0 rfl rfl rfl (fun hc => ?_) (fun hc => ?_) | refine s_gnb1 rfl rfl rfl (fun hc => ?_) (fun hc => ?_) | refine s_gnb0 rfl rfl rfl (fun hc => ?_) (fun hc => ?_))
      | (refine s_k 0 rfl ?_; refine s_val rfl rfl rfl (r_move rfl rfl) ?_)
      | (refine s_k 23 rfl ?_; first | refine s_val rfl rfl rfl (r_field tb rfl rfl rfl) ?_ | refine s_val rfl rfl rfl (r_fieldS tb rfl rfl rfl) ?_)
      | (refine s_k 8 rfl ?_; first | (refine' s_val rfl rfl rfl (r_ldv rfl rfl ?qm ?qv) ?_; (case qm => (exact zMm)); (case qv => (first | exact ldvL tb rfl rfl | exact ldv1 tb rfl (by assumption) | exact ldv1 tb rfl (g0) | exact ldv1 tb rfl (g1) | exact zLd))) | (refine' s_val rfl rfl rfl (r_ldo rfl rfl ?qw (by simp) ?qv) ?_; (case qw => assumption); (case qv => (first | exact ldvL tb rfl rfl | exact ldv1 tb rfl (by assumption) | exact ldv1 tb rfl (g0) | exact ldv1 tb rfl (g1) | exact zLd))))
      | (refine s_k 1 rfl ?_; refine s_val rfl rfl rfl (r_assign rfl rfl) ?_)
      | (refine s_k 13 rfl ?_; first | refine s_val rfl rfl rfl (r_lss rfl rfl rfl) ?_ | refine s_val rfl rfl rfl (r_add rfl rfl rfl (wrap_in (by simp only [lo, hi]; omega))) ?_ | refine s_val rfl rfl rfl (r_leq rfl rfl rfl) ?_)
      | (refine s_k 35 rfl ?_; first | (refine s_call Try.func214 (by kernel_rfl) rfl rfl rfl rfl rfl rfl (fun w hL => hnext w) ?_) | (refine s_call Try.func201 (by kernel_rfl) rfl rfl rfl rfl rfl rfl (fun w hL => his w _ _ (hL.at_ m1)) ?_) | (refine s_callM2 Try.func228 (by kernel_rfl) rfl rfl rfl rfl rfl rfl (fun w hL hg => p4 w (hS.at_ hL) hg) fun cs5 hcs5 => ?_; subst hcs5) | (refine s_callM1 Try.func203 (by kernel_rfl) rfl rfl rfl rfl rfl rfl (fun w hL hg => hset w _ hg) fun c7 hc7 => ?_))
      | (refine s_k 15 rfl ?_; refine s_val rfl rfl rfl (r_conv tb rfl rfl rfl rfl (wrap_in (by simp only [lo, hi]; omega))) ?_)
      | (refine s_k 2 rfl ?_; first | refine s_val rfl rfl rfl (r_pick1 rfl rfl zTr rfl) ?_ | refine s_val rfl rfl rfl (r_pick0 rfl rfl zTr rfl) ?_)
      | (refine s_k 25 rfl ?_; first | refine s_val rfl rfl rfl (r_ixN tb rfl rfl rfl rfl (by omega)) ?_ | refine s_val rfl rfl rfl (r_ixA tb rfl rfl rfl rfl (by omega) (by omega)) ?_ | refine s_val rfl rfl rfl (r_ixO tb rfl rfl rfl rfl (by omega)) ?_)
      | (refine s_k 9 rfl ?_; (first | refine s_st1 tb rfl rfl rfl rfl rfl rfl rfl rfl ?_ | refine s_stA tb rfl rfl rfl rfl (by first | rfl | assumption | (apply Pv.size; assumption)) rfl rfl ?_); (first | refine' st0 ?qs ?_ | refine' st1 ?qs ?_ | refine' st2 ?qs ?_ | refine' st3 ?qs ?_ | refine' st4 ?qs ?_ | refine' st5 ?qs ?_ | refine' st6 ?qs ?_ | refine' st7 ?qs ?_ | refine' st8 ?qs ?_ | refine' st9 ?qs ?_ | refine' st10 ?qs ?_ | refine' st11 ?qs ?_); (case qs => (first | exact set_whole (vs := #[.int .i8 (x : Int), .int .i8 (y : Int)]) rfl (by simp [Value.oneCell']) | exact zSet)))
      | (refine s_k 3 rfl ?_; refine s_allocA (t := 88) rfl zImplSpot rfl rfl rfl fun blk => ?_)
      | (refine s_k 5 rfl ?_; refine s_val rfl rfl rfl (r_build rfl rfl (fun w => bSpot _ _ rfl rfl w)) ?_)
      | refine s_nil ?_)
              | (refine c_g ?_; first | refine c_seq ?_ | refine c_region ?_ | (refine c_gc ?_; first | refine c_cond1 rfl zTr ?_ | refine c_cond0 rfl zTr ?_ | refine z_condd1 rfl ?_ | refine z_condd0 rfl ?_ | refine z_conddn1 rfl ?_ | refine z_conddn0 rfl ?_ | refine c_condd rfl (fun hc => ?_) (fun hc => ?_) | refine c_conddn rfl (fun hc => ?_) (fun hc => ?_) | refine c_condn rfl (fun hc => ?_) (fun hc => ?_) | refine c_cond rfl (fun hc => ?_) (fun hc => ?_)) | refine c_block ?_ | refine c_skip ?_ | refine c_exit ?_ | refine c_ret ?_)
              | (refine e_g ?_; first | refine e_then ?_ | refine e_blkn ?_ | refine e_thenx ?_ | refine e_thenr ?_ | refine e_blkr ?_ | refine e_blkx ?_ | refine e_blky rfl ?_)
              | (refine e_drop1 (T := 263) (cs := srcC A bs.length cap at5 sd5) (by simp) (e_round (side + 1, q7, c7, at5, sd5) (by simp; omega) ⟨by simp; omega, hD2 c7 hc7⟩ ?_ rfl)))
            all_goals (repeat' (first | exact sub_nil | refine sub_cons rfl ?_))
          · have hD2 : Dr W H (at_ + 6 + y * 30 + x * 6 + (side + 1 : Nat) * 2) q c at5 := ⟨hD.pv, hD.val, hD.w, hD.h, by omega, by omega⟩
            repeat' (first
              | (refine s_g ?_; first
      | (refine s_gd rfl ?_; first | refine s_gd1 rfl rfl zTr ?_ | refine s_gd0 rfl rfl rfl zTr ?_ | refine s_gd00 rfl rfl zTr ?_ | refine s_gp1 rfl rfl rfl (fun hc => ?_) (fun hc => ?_) | refine s_gp0 rfl rfl rfl (fun hc => ?_) (fun hc => ?_) | refine s_gnp1 rfl rfl rfl (fun hc => ?_) (fun hc => ?_) | refine s_gnp0 rfl rfl rfl (fun hc => ?_) (fun hc => ?_) | refine s_gb1 rfl rfl rfl (fun hc => ?_) (fun hc => ?_) | refine s_gb0 rfl rfl rfl (fun hc => ?_) (fun hc => ?_) | refine s_gnb1 rfl rfl rfl (fun hc => ?_) (fun hc => ?_) | refine s_gnb0 rfl rfl rfl (fun hc => ?_) (fun hc => ?_))
      | (refine s_k 0 rfl ?_; refine s_val rfl rfl rfl (r_move rfl rfl) ?_)
      | (refine s_k 23 rfl ?_; first | refine s_val rfl rfl rfl (r_field tb rfl rfl rfl) ?_ | refine s_val rfl rfl rfl (r_fieldS tb rfl rfl rfl) ?_)
      | (refine s_k 8 rfl ?_; first | (refine' s_val rfl rfl rfl (r_ldv rfl rfl ?qm ?qv) ?_; (case qm => (exact zMm)); (case qv => (first | exact ldvL tb rfl rfl | exact ldv1 tb rfl (by assumption) | exact ldv1 tb rfl (g0) | exact ldv1 tb rfl (g1) | exact zLd))) | (refine' s_val rfl rfl rfl (r_ldo rfl rfl ?qw (by simp) ?qv) ?_; (case qw => assumption); (case qv => (first | exact ldvL tb rfl rfl | exact ldv1 tb rfl (by assumption) | exact ldv1 tb rfl (g0) | exact ldv1 tb rfl (g1) | exact zLd))))
      | (refine s_k 1 rfl ?_; refine s_val rfl rfl rfl (r_assign rfl rfl) ?_)
      | (refine s_k 13 rfl ?_; first | refine s_val rfl rfl rfl (r_lss rfl rfl rfl) ?_ | refine s_val rfl rfl rfl (r_add rfl rfl rfl (wrap_in (by simp only [lo, hi]; omega))) ?_ | refine s_val rfl rfl rfl (r_leq rfl rfl rfl) ?_)
      | (refine s_k 35 rfl ?_; first | (refine s_call Try.func214 (by kernel_rfl) rfl rfl rfl rfl rfl rfl (fun w hL => hnext w) ?_) | (refine s_call Try.func201 (by kernel_rfl) rfl rfl rfl rfl rfl rfl (fun w hL => his w _ _ (hL.at_ m1)) ?_) | (refine s_callM2 Try.func228 (by kernel_rfl) rfl rfl rfl rfl rfl rfl (fun w hL hg => p4 w (hS.at_ hL) hg) fun cs5 hcs5 => ?_; subst hcs5))
      | (refine s_k 15 rfl ?_; refine s_val rfl rfl rfl (r_conv tb rfl rfl rfl rfl (wrap_in (by simp only [lo, hi]; omega))) ?_)
      | (refine s_k 2 rfl ?_; first | refine s_val rfl rfl rfl (r_pick1 rfl rfl zTr rfl) ?_ | refine s_val rfl rfl rfl (r_pick0 rfl rfl zTr rfl) ?_)
      | (refine s_k 25 rfl ?_; first | refine s_val rfl rfl rfl (r_ixN tb rfl rfl rfl rfl (by omega)) ?_ | refine s_val rfl rfl rfl (r_ixA tb rfl rfl rfl rfl (by omega) (by omega)) ?_ | refine s_val rfl rfl rfl (r_ixO tb rfl rfl rfl rfl (by omega)) ?_)
      | (refine s_k 9 rfl ?_; (first | refine s_st1 tb rfl rfl rfl rfl rfl rfl rfl rfl ?_ | refine s_stA tb rfl rfl rfl rfl (by first | rfl | assumption | (apply Pv.size; assumption)) rfl rfl ?_); (first | refine' st0 ?qs ?_ | refine' st1 ?qs ?_ | refine' st2 ?qs ?_ | refine' st3 ?qs ?_ | refine' st4 ?qs ?_ | refine' st5 ?qs ?_ | refine' st6 ?qs ?_ | refine' st7 ?qs ?_ | refine' st8 ?qs ?_ | refine' st9 ?qs ?_ | refine' st10 ?qs ?_ | refine' st11 ?qs ?_); (case qs => (first | exact set_whole (vs := #[.int .i8 (x : Int), .int .i8 (y : Int)]) rfl (by simp [Value.oneCell']) | exact zSet)))
      | (refine s_k 3 rfl ?_; refine s_allocA (t := 88) rfl zImplSpot rfl rfl rfl fun blk => ?_)
      | (refine s_k 5 rfl ?_; refine s_val rfl rfl rfl (r_build rfl rfl (fun w => bSpot _ _ rfl rfl w)) ?_)
      | refine s_nil ?_)
              | (refine c_g ?_; first | refine c_seq ?_ | refine c_region ?_ | (refine c_gc ?_; first | refine c_cond1 rfl zTr ?_ | refine c_cond0 rfl zTr ?_ | refine z_condd1 rfl ?_ | refine z_condd0 rfl ?_ | refine z_conddn1 rfl ?_ | refine z_conddn0 rfl ?_ | refine c_condd rfl (fun hc => ?_) (fun hc => ?_) | refine c_conddn rfl (fun hc => ?_) (fun hc => ?_) | refine c_condn rfl (fun hc => ?_) (fun hc => ?_) | refine c_cond rfl (fun hc => ?_) (fun hc => ?_)) | refine c_block ?_ | refine c_skip ?_ | refine c_exit ?_ | refine c_ret ?_)
              | (refine e_g ?_; first | refine e_then ?_ | refine e_blkn ?_ | refine e_thenx ?_ | refine e_thenr ?_ | refine e_blkr ?_ | refine e_blkx ?_ | refine e_blky rfl ?_)
              | (refine e_drop1 (T := 263) (cs := srcC A bs.length cap at5 sd5) (by simp) (e_round (side + 1, q, c, at5, sd5) (by simp; omega) ⟨by simp; omega, hD2⟩ ?_ rfl)))
            all_goals (repeat' (first | exact sub_nil | refine sub_cons rfl ?_))
      · have hs3 : side = 3 := by omega
        subst hs3
        repeat' (first
          | (refine s_g ?_; first
      | (refine s_gd rfl ?_; first | refine s_gd1 rfl rfl zTr ?_ | refine s_gd0 rfl rfl rfl zTr ?_ | refine s_gd00 rfl rfl zTr ?_ | refine s_gp1 rfl rfl rfl (fun hc => ?_) (fun hc => ?_) | refine s_gp0 rfl rfl rfl (fun hc => ?_) (fun hc => ?_) | refine s_gnp1 rfl rfl rfl (fun hc => ?_) (fun hc => ?_) | refine s_gnp0 rfl rfl rfl (fun hc => ?_) (fun hc => ?_) | refine s_gb1 rfl rfl rfl (fun hc => ?_) (fun hc => ?_) | refine s_gb0 rfl rfl rfl (fun hc => ?_) (fun hc => ?_) | refine s_gnb1 rfl rfl rfl (fun hc => ?_) (fun hc => ?_) | refine s_gnb0 rfl rfl rfl (fun hc => ?_) (fun hc => ?_))
      | (refine s_k 0 rfl ?_; refine s_val rfl rfl rfl (r_move rfl rfl) ?_)
      | (refine s_k 23 rfl ?_; first | refine s_val rfl rfl rfl (r_field tb rfl rfl rfl) ?_ | refine s_val rfl rfl rfl (r_fieldS tb rfl rfl rfl) ?_)
      | (refine s_k 8 rfl ?_; first | (refine' s_val rfl rfl rfl (r_ldv rfl rfl ?qm ?qv) ?_; (case qm => (exact zMm)); (case qv => (first | exact ldvL tb rfl rfl | exact ldv1 tb rfl (by assumption) | exact ldv1 tb rfl (g0) | exact ldv1 tb rfl (g1) | exact zLd))) | (refine' s_val rfl rfl rfl (r_ldo rfl rfl ?qw (by simp) ?qv) ?_; (case qw => assumption); (case qv => (first | exact ldvL tb rfl rfl | exact ldv1 tb rfl (by assumption) | exact ldv1 tb rfl (g0) | exact ldv1 tb rfl (g1) | exact zLd))))
      | (refine s_k 1 rfl ?_; refine s_val rfl rfl rfl (r_assign rfl rfl) ?_)
      | (refine s_k 13 rfl ?_; first | refine s_val rfl rfl rfl (r_lss rfl rfl rfl) ?_ | refine s_val rfl rfl rfl (r_add rfl rfl rfl (wrap_in (by simp only [lo, hi]; omega))) ?_ | refine s_val rfl rfl rfl (r_leq rfl rfl rfl) ?_)
      | (refine s_k 15 rfl ?_; refine s_val rfl rfl rfl (r_conv tb rfl rfl rfl rfl (wrap_in (by simp only [lo, hi]; omega))) ?_)
      | (refine s_k 2 rfl ?_; first | refine s_val rfl rfl rfl (r_pick1 rfl rfl zTr rfl) ?_ | refine s_val rfl rfl rfl (r_pick0 rfl rfl zTr rfl) ?_)
      | (refine s_k 25 rfl ?_; first | refine s_val rfl rfl rfl (r_ixN tb rfl rfl rfl rfl (by omega)) ?_ | refine s_val rfl rfl rfl (r_ixA tb rfl rfl rfl rfl (by omega) (by omega)) ?_ | refine s_val rfl rfl rfl (r_ixO tb rfl rfl rfl rfl (by omega)) ?_)
      | (refine s_k 9 rfl ?_; (first | refine s_st1 tb rfl rfl rfl rfl rfl rfl rfl rfl ?_ | refine s_stA tb rfl rfl rfl rfl (by first | rfl | assumption | (apply Pv.size; assumption)) rfl rfl ?_); (first | refine' st0 ?qs ?_ | refine' st1 ?qs ?_ | refine' st2 ?qs ?_ | refine' st3 ?qs ?_ | refine' st4 ?qs ?_ | refine' st5 ?qs ?_ | refine' st6 ?qs ?_ | refine' st7 ?qs ?_ | refine' st8 ?qs ?_ | refine' st9 ?qs ?_ | refine' st10 ?qs ?_ | refine' st11 ?qs ?_); (case qs => (first | exact zSet)))
      | refine s_nil ?_)
          | (refine c_g ?_; first | refine c_seq ?_ | refine c_region ?_ | (refine c_gc ?_; first | refine c_cond1 rfl zTr ?_ | refine c_cond0 rfl zTr ?_ | refine z_condd1 rfl ?_ | refine z_condd0 rfl ?_ | refine z_conddn1 rfl ?_ | refine z_conddn0 rfl ?_ | refine c_condd rfl (fun hc => ?_) (fun hc => ?_) | refine c_conddn rfl (fun hc => ?_) (fun hc => ?_) | refine c_condn rfl (fun hc => ?_) (fun hc => ?_) | refine c_cond rfl (fun hc => ?_) (fun hc => ?_)) | refine c_block ?_ | refine c_skip ?_ | refine c_exit ?_ | refine c_ret ?_)
          | (refine e_g ?_; first | refine e_then ?_ | refine e_blkn ?_ | refine e_thenx ?_ | refine e_thenr ?_ | refine e_blkr ?_ | refine e_blkx ?_ | refine e_blky rfl ?_)
          | (refine e_round (x + 1, q, c, at4, sd4) (by simp; omega) ⟨by simp; omega, ⟨hD.pv, hD.val, hD.w, hD.h, hl0, by simp only; omega⟩⟩ ?_ rfl))
        all_goals (repeat' (first | exact sub_nil | refine sub_cons rfl ?_))
    · have hxW : x = W := by omega
      subst hxW
      repeat' (first
        | (refine s_g ?_; first
      | (refine s_gd rfl ?_; first | refine s_gd1 rfl rfl zTr ?_ | refine s_gd0 rfl rfl rfl zTr ?_ | refine s_gd00 rfl rfl zTr ?_ | refine s_gp1 rfl rfl rfl (fun hc => ?_) (fun hc => ?_) | refine s_gp0 rfl rfl rfl (fun hc => ?_) (fun hc => ?_) | refine s_gnp1 rfl rfl rfl (fun hc => ?_) (fun hc => ?_) | refine s_gnp0 rfl rfl rfl (fun hc => ?_) (fun hc => ?_) | refine s_gb1 rfl rfl rfl (fun hc => ?_) (fun hc => ?_) | refine s_gb0 rfl rfl rfl (fun hc => ?_) (fun hc => ?_) | refine s_gnb1 rfl rfl rfl (fun hc => ?_) (fun hc => ?_) | refine s_gnb0 rfl rfl rfl (fun hc => ?_) (fun hc => ?_))
      | (refine s_k 0 rfl ?_; refine s_val rfl rfl rfl (r_move rfl rfl) ?_)
      | (refine s_k 23 rfl ?_; first | refine s_val rfl rfl rfl (r_field tb rfl rfl rfl) ?_ | refine s_val rfl rfl rfl (r_fieldS tb rfl rfl rfl) ?_)
      | (refine s_k 8 rfl ?_; first | (refine' s_val rfl rfl rfl (r_ldv rfl rfl ?qm ?qv) ?_; (case qm => (exact zMm)); (case qv => (first | exact ldvL tb rfl rfl | exact ldv1 tb rfl (by assumption) | exact ldv1 tb rfl (g0) | exact ldv1 tb rfl (g1) | exact zLd))) | (refine' s_val rfl rfl rfl (r_ldo rfl rfl ?qw (by simp) ?qv) ?_; (case qw => assumption); (case qv => (first | exact ldvL tb rfl rfl | exact ldv1 tb rfl (by assumption) | exact ldv1 tb rfl (g0) | exact ldv1 tb rfl (g1) | exact zLd))))
      | (refine s_k 1 rfl ?_; refine s_val rfl rfl rfl (r_assign rfl rfl) ?_)
      | (refine s_k 13 rfl ?_; first | refine s_val rfl rfl rfl (r_lss rfl rfl rfl) ?_ | refine s_val rfl rfl rfl (r_add rfl rfl rfl (wrap_in (by simp only [lo, hi]; omega))) ?_ | refine s_val rfl rfl rfl (r_leq rfl rfl rfl) ?_)
      | (refine s_k 15 rfl ?_; refine s_val rfl rfl rfl (r_conv tb rfl rfl rfl rfl (wrap_in (by simp only [lo, hi]; omega))) ?_)
      | (refine s_k 2 rfl ?_; first | refine s_val rfl rfl rfl (r_pick1 rfl rfl zTr rfl) ?_ | refine s_val rfl rfl rfl (r_pick0 rfl rfl zTr rfl) ?_)
      | (refine s_k 25 rfl ?_; first | refine s_val rfl rfl rfl (r_ixN tb rfl rfl rfl rfl (by omega)) ?_ | refine s_val rfl rfl rfl (r_ixA tb rfl rfl rfl rfl (by omega) (by omega)) ?_ | refine s_val rfl rfl rfl (r_ixO tb rfl rfl rfl rfl (by omega)) ?_)
      | (refine s_k 9 rfl ?_; (first | refine s_st1 tb rfl rfl rfl rfl rfl rfl rfl rfl ?_ | refine s_stA tb rfl rfl rfl rfl (by first | rfl | assumption | (apply Pv.size; assumption)) rfl rfl ?_); (first | refine' st0 ?qs ?_ | refine' st1 ?qs ?_ | refine' st2 ?qs ?_ | refine' st3 ?qs ?_ | refine' st4 ?qs ?_ | refine' st5 ?qs ?_ | refine' st6 ?qs ?_ | refine' st7 ?qs ?_ | refine' st8 ?qs ?_ | refine' st9 ?qs ?_ | refine' st10 ?qs ?_ | refine' st11 ?qs ?_); (case qs => (first | exact zSet)))
      | refine s_nil ?_)
        | (refine c_g ?_; first | refine c_seq ?_ | refine c_region ?_ | (refine c_gc ?_; first | refine c_cond1 rfl zTr ?_ | refine c_cond0 rfl zTr ?_ | refine z_condd1 rfl ?_ | refine z_condd0 rfl ?_ | refine z_conddn1 rfl ?_ | refine z_conddn0 rfl ?_ | refine c_condd rfl (fun hc => ?_) (fun hc => ?_) | refine c_conddn rfl (fun hc => ?_) (fun hc => ?_) | refine c_condn rfl (fun hc => ?_) (fun hc => ?_) | refine c_cond rfl (fun hc => ?_) (fun hc => ?_)) | refine c_block ?_ | refine c_skip ?_ | refine c_exit ?_ | refine c_ret ?_)
        | (refine e_g ?_; first | refine e_then ?_ | refine e_blkn ?_ | refine e_thenx ?_ | refine e_thenr ?_ | refine e_blkr ?_ | refine e_blkx ?_ | refine e_blky rfl ?_)
        | (refine e_round (y + 1, q, c, at4, sd4) (by simp; omega) ⟨by simp; omega, ⟨hD.pv, hD.val, hD.w, hD.h, hl0, by simp only; omega⟩⟩ ?_ rfl))
      all_goals (repeat' (first | exact sub_nil | refine sub_cons rfl ?_))
  · have hyH : y = H := by omega
    subst hyH
    have hfs := hD.pv.size
    repeat' (first
      | (refine s_g ?_; first
      | (refine s_gd rfl ?_; first | refine s_gd1 rfl rfl zTr ?_ | refine s_gd0 rfl rfl rfl zTr ?_ | refine s_gd00 rfl rfl zTr ?_ | refine s_gp1 rfl rfl rfl (fun hc => ?_) (fun hc => ?_) | refine s_gp0 rfl rfl rfl (fun hc => ?_) (fun hc => ?_) | refine s_gnp1 rfl rfl rfl (fun hc => ?_) (fun hc => ?_) | refine s_gnp0 rfl rfl rfl (fun hc => ?_) (fun hc => ?_) | refine s_gb1 rfl rfl rfl (fun hc => ?_) (fun hc => ?_) | refine s_gb0 rfl rfl rfl (fun hc => ?_) (fun hc => ?_) | refine s_gnb1 rfl rfl rfl (fun hc => ?_) (fun hc => ?_) | refine s_gnb0 rfl rfl rfl (fun hc => ?_) (fun hc => ?_))
      | (refine s_k 0 rfl ?_; refine s_val rfl rfl rfl (r_move rfl rfl) ?_)
      | (refine s_k 23 rfl ?_; first | refine s_val rfl rfl rfl (r_field tb rfl rfl rfl) ?_ | refine s_val rfl rfl rfl (r_fieldS tb rfl rfl rfl) ?_)
      | (refine s_k 8 rfl ?_; first | (refine' s_val rfl rfl rfl (r_ldv rfl rfl ?qm ?qv) ?_; (case qm => (exact zMm)); (case qv => (first | exact ldvL tb rfl rfl | exact ldv1 tb rfl (by assumption) | exact ldv1 tb rfl (g0) | exact ldv1 tb rfl (g1) | exact zLd))) | (refine' s_val rfl rfl rfl (r_ldo rfl rfl ?qw (by simp) ?qv) ?_; (case qw => assumption); (case qv => (first | exact ldvL tb rfl rfl | exact ldv1 tb rfl (by assumption) | exact ldv1 tb rfl (g0) | exact ldv1 tb rfl (g1) | exact zLd))))
      | (refine s_k 1 rfl ?_; refine s_val rfl rfl rfl (r_assign rfl rfl) ?_)
      | (refine s_k 13 rfl ?_; first | refine s_val rfl rfl rfl (r_lss rfl rfl rfl) ?_ | refine s_val rfl rfl rfl (r_add rfl rfl rfl (wrap_in (by simp only [lo, hi]; omega))) ?_ | refine s_val rfl rfl rfl (r_leq rfl rfl rfl) ?_)
      | (refine s_k 15 rfl ?_; refine s_val rfl rfl rfl (r_conv tb rfl rfl rfl rfl (wrap_in (by simp only [lo, hi]; omega))) ?_)
      | (refine s_k 2 rfl ?_; first | refine s_val rfl rfl rfl (r_pick1 rfl rfl zTr rfl) ?_ | refine s_val rfl rfl rfl (r_pick0 rfl rfl zTr rfl) ?_)
      | (refine s_k 25 rfl ?_; first | refine s_val rfl rfl rfl (r_ixN tb rfl rfl rfl rfl (by omega)) ?_ | refine s_val rfl rfl rfl (r_ixA tb rfl rfl rfl rfl (by omega) (by omega)) ?_ | refine s_val rfl rfl rfl (r_ixO tb rfl rfl rfl rfl (by omega)) ?_)
      | (refine s_k 9 rfl ?_; (first | refine s_st1 tb rfl rfl rfl rfl rfl rfl rfl rfl ?_ | refine s_stA tb rfl rfl rfl rfl (by first | rfl | assumption | (apply Pv.size; assumption)) rfl rfl ?_); (first | refine' st0 ?qs ?_ | refine' st1 ?qs ?_ | refine' st2 ?qs ?_ | refine' st3 ?qs ?_ | refine' st4 ?qs ?_ | refine' st5 ?qs ?_ | refine' st6 ?qs ?_ | refine' st7 ?qs ?_ | refine' st8 ?qs ?_ | refine' st9 ?qs ?_ | refine' st10 ?qs ?_ | refine' st11 ?qs ?_); (case qs => (first | exact setP hD.pv rfl | exact zSet)))
      | refine s_nil ?_)
      | (refine c_g ?_; first | refine c_seq ?_ | refine c_region ?_ | (refine c_gc ?_; first | refine c_cond1 rfl zTr ?_ | refine c_cond0 rfl zTr ?_ | refine z_condd1 rfl ?_ | refine z_condd0 rfl ?_ | refine z_conddn1 rfl ?_ | refine z_conddn0 rfl ?_ | refine c_condd rfl (fun hc => ?_) (fun hc => ?_) | refine c_conddn rfl (fun hc => ?_) (fun hc => ?_) | refine c_condn rfl (fun hc => ?_) (fun hc => ?_) | refine c_cond rfl (fun hc => ?_) (fun hc => ?_)) | refine c_block ?_ | refine c_skip ?_ | refine c_exit ?_ | refine c_ret ?_)
      | (refine e_g ?_; first | refine e_then ?_ | refine e_blkn ?_ | refine e_thenx ?_ | refine e_thenr ?_ | refine e_blkr ?_ | refine e_blkx ?_ | refine e_blky rfl ?_)
      | (refine e_ret1 (by simp) rfl (re_cell tb rfl m2 rfl hD.pv.size) fun w hL => ⟨(q, c, at4, sd4), ⟨hD.pv, hD.val, by unfold small; simp only; rw [hD.w, hD.h]; omega, hD.lo0, by have := hD.hi0; simp only; omega⟩, rfl, Upd.of hL m1⟩))
end Go.Proofs.Ytpifngdmlmfnhaa
