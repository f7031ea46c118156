import Derived.Test.YtnfdefeafhepkaaQI24
import Derived.Test.YtnfdefeafhepkaaQI30
import Derived.Test.YtnfdefeafhepkaaQI34
set_option linter.unusedVariables false
set_option linter.unusedSimpArgs false
namespace Go.Proofs.Ytnfdefeafhepkaa
open Go.RowKit Mem Wk
attribute [local irreducible] Calls Wk.S Wk.C Wk.E Wk.X Wk.T Wk.Y Wk.Z Wk.anV Wk.orV Wk.andV Wk.shlV Wk.shrV Calm.wpLex CalmB.wpLex CalmE.wpLex bfsN
set_option maxRecDepth 100000 in
theorem l00MaxG_any (a b : Int) (w : World) : Calls Try.prog 118 #[.int .i64 a, .int .i64 b] w fun e w' => e = .returned (.int .i64 (max a b)) ∧ Below w.heap.size w w' := by
  by_cases h : b < a
  · rw [show max a b = a by omega]
    refine enter2 Try.func118 rfl rfl rfl (Own.start w) ?_
    repeat' (first | (refine s_g ?_; first | (refine s_k 0 rfl ?_; refine zsv (r_move rfl rfl) ?_) | (refine s_k 1 rfl ?_; refine zsv (r_assign rfl rfl) ?_) | (refine s_k 13 rfl ?_; refine zsv (r_gtr rfl rfl rfl) ?_) | refine s_nil ?_) | (refine c_g ?_; first | refine c_seq ?_ | refine c_region ?_ | (refine c_gc ?_; first | refine c_cond1 rfl zTr ?_ | refine c_cond0 rfl zTr ?_) | refine c_block ?_ | refine c_skip ?_ | refine c_exit ?_ | refine c_ret ?_) | (refine e_g ?_; first | refine e_then ?_ | refine e_blkn ?_ | refine e_thenx ?_ | refine e_thenr ?_ | refine e_blkr ?_ | refine e_blkx ?_ | refine e_blky rfl ?_) | (refine e_ret1 (by simp) rfl (re_tmp rfl) fun w hL => ⟨rfl, hL.toBelow⟩))
  · rw [show max a b = b by omega]
    refine enter2 Try.func118 rfl rfl rfl (Own.start w) ?_
    repeat' (first | (refine s_g ?_; first | (refine s_k 0 rfl ?_; refine zsv (r_move rfl rfl) ?_) | (refine s_k 1 rfl ?_; refine zsv (r_assign rfl rfl) ?_) | (refine s_k 13 rfl ?_; refine zsv (r_gtr rfl rfl rfl) ?_) | refine s_nil ?_) | (refine c_g ?_; first | refine c_seq ?_ | refine c_region ?_ | (refine c_gc ?_; first | refine c_cond1 rfl zTr ?_ | refine c_cond0 rfl zTr ?_) | refine c_block ?_ | refine c_skip ?_ | refine c_exit ?_ | refine c_ret ?_) | (refine e_g ?_; first | refine e_then ?_ | refine e_blkn ?_ | refine e_thenx ?_ | refine e_thenr ?_ | refine e_blkr ?_ | refine e_blkx ?_ | refine e_blky rfl ?_) | (refine e_ret1 (by simp) rfl (re_tmp rfl) fun w hL => ⟨rfl, hL.toBelow⟩))
set_option maxRecDepth 100000 in
theorem among_any (bs : List Int) (A : Option Addr) (cap gs : Nat) (at_ seed : Int) (xs : List Int) (gx : Nat) (T : TypeId) (w : World) (hS : SlA [gs] w 1 A (byC bs)) (hb : ∀ b ∈ bs, 0 ≤ b ∧ b ≤ 255) (hn : bs.length ≤ 1048576) (h0 : 0 ≤ at_) (h1 : at_ ≤ 1048000) (hx0 : 0 < xs.length) (hx1 : xs.length ≤ 100) (hg : w.heap[gs]? = some (.cells (srcC A bs.length cap at_ seed) 167 (0, 0))) (hgx : w.heap[gx]? = some (.cells (intA xs) T (0, 0))) (hne : gx ≠ gs) :
    Calls Try.prog 117 #[.pointer (some ⟨gs, 0, none⟩), .slice (some ⟨gx, 0, none⟩) xs.length xs.length] w fun e w' => e = .returned (.int .i64 (xs.getD (pkV bs xs.length at_ seed).1.toNat 0)) ∧ ∃ cs', cs' = srcC A bs.length cap (pkV bs xs.length at_ seed).2.1 (pkV bs xs.length at_ seed).2.2 ∧ Upd w w' gs 167 cs' := by
  have hpk := fun w hS hg => pick_any bs A cap gs at_ seed xs.length w hS hb hn h0 h1 hg
  have hk := pkV_ok hb xs.length at_ seed h0
  generalize pkV bs xs.length at_ seed = q at *
  obtain ⟨r, at1, sd1⟩ := q
  simp only at hk hpk ⊢
  obtain ⟨rn, rfl⟩ : ∃ rn : Nat, r = (rn : Int) := ⟨r.toNat, by omega⟩
  have hrl : rn < xs.length := by omega
  have hxy : xs[rn]? = some xs[rn] := List.getElem?_eq_getElem hrl
  have hgd : xs.getD (rn : Int).toNat 0 = xs[rn] := by simp [List.getD, hxy]
  have hld := intA_get hxy
  rw [hgd]
  generalize xs[rn] = v at *
  refine enter2 Try.func117 rfl rfl rfl (Own.startAt w hg) ?_
  repeat' (first | (refine s_g ?_; first | (refine s_k 0 rfl ?_; refine zsv (r_move rfl rfl) ?_) | (refine s_k 8 rfl ?_; first | refine zsv (r_ldo rfl rfl hgx (by simp [hne]) (ldv1 tb rfl hld)) ?_ | (refine' s_val rfl rfl rfl (r_ldv rfl rfl ?qm ?qv) ?_; (case qm => (exact zMm)); (case qv => (exact zLe))) | (refine' s_val rfl rfl rfl (r_ldo rfl rfl ?qw (by simp) ?qv) ?_; (case qw => assumption); (case qv => (exact zLe)))) | (refine s_k 1 rfl ?_; refine zsv (r_assign rfl rfl) ?_) | (refine s_k 35 rfl ?_; (refine s_callM0 Try.func66 (by kernel_rfl) rfl rfl rfl rfl rfl rfl (fun w hL hg => hpk w (hS.at_ hL) hg) fun cs5 hcs5 => ?_; subst hcs5)) | (refine s_k 25 rfl ?_; first | refine zsv (r_ixO tb rfl rfl rfl rfl hrl) ?_ | refine zsv (r_ixN tb rfl rfl rfl rfl (by omega)) ?_ | refine zsv (r_ixA tb rfl rfl rfl rfl (by omega) (by omega)) ?_ | refine zsv (r_ixO tb rfl rfl rfl rfl (by omega)) ?_) | (refine s_k 36 rfl ?_; refine zsv (r_len tb rfl rfl rfl) ?_) | refine s_nil ?_) | (refine c_g ?_; first | refine c_seq ?_ | refine c_region ?_ | (refine c_gc ?_; first | refine c_cond1 rfl zTr ?_ | refine c_cond0 rfl zTr ?_) | refine c_block ?_ | refine c_skip ?_ | refine c_exit ?_ | refine c_ret ?_) | (refine e_g ?_; first | refine e_then ?_ | refine e_blkn ?_ | refine e_thenx ?_ | refine e_thenr ?_ | refine e_blkr ?_ | refine e_blkx ?_ | refine e_blky rfl ?_) | (refine e_ret1 (by simp) rfl (re_tmp rfl) fun w hL => ⟨rfl, _, rfl, Upd.of hL m0⟩))
theorem slI7 (w : World) : (Instr.buildSlice 56 7 #[(0, .int .i64 0), (1, .int .i64 3), (2, .int .i64 5), (3, .int .i64 7), (4, .int .i64 12), (5, .int .i64 30), (6, .int .i64 100)]).run Try.prog w = .ok (.slice (some ⟨w.heap.size, 0, none⟩) 7 7) (w.alloc (.cells (intA [0, 3, 5, 7, 12, 30, 100]) 2 (0, 0))) := by kernel_rfl
theorem slI6 (w : World) : (Instr.buildSlice 56 6 #[(0, .int .i64 0), (1, .int .i64 1), (2, .int .i64 2), (3, .int .i64 4), (4, .int .i64 9), (5, .int .i64 200)]).run Try.prog w = .ok (.slice (some ⟨w.heap.size, 0, none⟩) 6 6) (w.alloc (.cells (intA [0, 1, 2, 4, 9, 200]) 2 (0, 0))) := by kernel_rfl
theorem bGoatW (a b : Int) (w : World) : (Instr.build 68 #[(0, .agg #[.int .i8 a, .int .i8 b]), (2, .int .i16 (-1))]).run Try.prog w = .ok (.agg #[.int .i8 a, .int .i8 b, .int .i8 0, .int .i8 0, .int .i16 (-1), .int .i16 0, .int .i8 0]) w := by kernel_rfl
theorem am7 (k : Nat) (h : k < 7) : 0 ≤ ([0, 3, 5, 7, 12, 30, 100] : List Int).getD k 0 ∧ ([0, 3, 5, 7, 12, 30, 100] : List Int).getD k 0 ≤ 100 := by
  rcases (by omega : k = 0 ∨ k = 1 ∨ k = 2 ∨ k = 3 ∨ k = 4 ∨ k = 5 ∨ k = 6) with rfl | rfl | rfl | rfl | rfl | rfl | rfl <;> decide
theorem am6 (k : Nat) (h : k < 6) : 0 ≤ ([0, 1, 2, 4, 9, 200] : List Int).getD k 0 ∧ ([0, 1, 2, 4, 9, 200] : List Int).getD k 0 ≤ 200 := by
  rcases (by omega : k = 0 ∨ k = 1 ∨ k = 2 ∨ k = 3 ∨ k = 4 ∨ k = 5) with rfl | rfl | rfl | rfl | rfl | rfl <;> decide
theorem spl2_2 (a b c d e f h x y : Value) : splice #[a, b, c, d, e, f, h] 2 #[x, y] = #[a, b, x, y, e, f, h] := by simp [splice]
theorem set2_2 {a b c d e f h x y : Value} (hx : x.oneCell' = true) (hy : y.oneCell' = true) : Wk.Set #[a, b, c, d, e, f, h] 2 #[x, y] #[a, b, x, y, e, f, h] := by
  have q := set_any (cs := #[a, b, c, d, e, f, h]) (off := 2) (vs := #[x, y]) (by simp) (by simp [hx, hy])
  rw [spl2_2] at q; exact q
theorem sq4 {d : Int} (h : -4 ≤ d ∧ d ≤ 4) : 0 ≤ d * d ∧ d * d ≤ 16 := by
  rcases (by omega : d = -4 ∨ d = -3 ∨ d = -2 ∨ d = -1 ∨ d = 0 ∨ d = 1 ∨ d = 2 ∨ d = 3 ∨ d = 4) with rfl | rfl | rfl | rfl | rfl | rfl | rfl | rfl | rfl <;> decide
theorem sqA_of (a b c d : Int) : sqA c d a b = sqOf ⟨a, b⟩ ⟨c, d⟩ := by
  unfold sqA sqOf
  simp only
  rw [show c - a = -(a - c) by omega, show d - b = -(b - d) by omega, Int.neg_mul_neg, Int.neg_mul_neg]
theorem goatOk_of {q : Nat → Int} {g : Gt} (h1 : isC (q 0) (q 1) g.x g.y = true) (h2 : isC (q 0) (q 1) g.u g.v = true) (h3 : -1 ≤ g.rope ∧ g.rope ≤ 200) (h4 : 0 ≤ g.eats ∧ g.eats ≤ 100) (h5 : 0 ≤ g.likes ∧ g.likes ≤ 1) (h6 : (g.rope = -1 ∧ g.u = 0 ∧ g.v = 0) ∨ (0 ≤ g.rope ∧ sqA g.u g.v g.x g.y ≤ g.rope)) : goatOk q g = true := by
  unfold goatOk plainG nearG tied
  rw [h1, h2]
  unfold inB
  rcases h6 with h6 | h6
  · simp [h6.1, h6.2.1, h6.2.2]; omega
  · simp; omega
set_option maxRecDepth 100000 in
set_option maxHeartbeats 3200000 in
theorem l02Drawn_any (bs : List Int) (A : Option Addr) (cap gs : Nat) (at_ seed : Int) (q : Nat → Int) (cs : Array Value) (T : TypeId) (gp : Nat) (w : World) (hS : SlA [gs] w 1 A (byC bs)) (hb : ∀ b ∈ bs, 0 ≤ b ∧ b ≤ 255) (hn : bs.length ≤ 1048576) (h0 : 0 ≤ at_) (h1 : at_ ≤ 1000000) (hg : w.heap[gs]? = some (.cells (srcC A bs.length cap at_ seed) 167 (0, 0))) (hp : Pv q cs) (hsm : small q) (hgp : w.heap[gp]? = some (.cells cs T (0, 0))) (hne : gp ≠ gs) :
    Calls Try.prog 65 #[.pointer (some ⟨gs, 0, none⟩), .pointer (some ⟨gp, 0, none⟩)] w fun e w' => ∃ i : Gt × Int × Int, (goatOk q i.1 = true ∧ i.1.ok ∧ 0 ≤ i.2.1 ∧ i.2.1 ≤ at_ + 20) ∧ e = .returned (.agg (gtA i.1)) ∧ Upd w w' gs 167 (srcC A bs.length cap i.2.1 i.2.2) := by
  have hpk := fun w at2 sd2 n hS ha hb2 hg => pick_any bs A cap gs at2 sd2 n w hS hb hn ha hb2 hg
  have hon := fun w at2 sd2 n hS ha hb2 hg => one_any bs A cap gs at2 sd2 n w hS hb hn ha hb2 hg
  have ham := fun w at2 sd2 xs gx T hS ha hb2 hx0 hx1 hg hgx hne2 => among_any bs A cap gs at2 sd2 xs gx T w hS hb hn ha hb2 hx0 hx1 hg hgx hne2
  have hok := fun n at2 sd2 ha => pkV_ok hb n at2 sd2 ha
  have g0 := hp.g0
  have g1 := hp.g1
  obtain ⟨hs1, hs2⟩ := hsm
  generalize pkV bs = pk at *
  have k1 := hok (q 0) at_ seed h0
  have p1 := fun w hS hg => hpk w at_ seed (q 0) hS h0 (by omega) hg
  rcases hq1 : pk (q 0) at_ seed with ⟨r1, at1, sd1⟩
  simp only [hq1] at k1 p1
  have k2 := hok (q 1) at1 sd1 (by omega)
  have p2 := fun w hS hg => hpk w at1 sd1 (q 1) hS (by omega) (by omega) hg
  rcases hq2 : pk (q 1) at1 sd1 with ⟨r2, at2, sd2⟩
  simp only [hq2] at k2 p2
  have k3 := hok 7 at2 sd2 (by omega)
  have p3 := fun w gx T hS hg hgx hne2 => ham w at2 sd2 [0, 3, 5, 7, 12, 30, 100] gx T hS (by omega) (by omega) (by simp) (by simp) hg hgx hne2
  simp only [List.length_cons, List.length_nil] at p3
  rcases hq3 : pk 7 at2 sd2 with ⟨r3, at3, sd3⟩
  have hq3' : pk ((0 + 1 + 1 + 1 + 1 + 1 + 1 + 1 : Nat) : Int) at2 sd2 = (r3, at3, sd3) := hq3
  simp only [hq3] at k3
  simp only [hq3'] at p3
  have e3 := am7 r3.toNat (by omega)
  generalize ([0, 3, 5, 7, 12, 30, 100] : List Int).getD r3.toNat 0 = v3 at *
  have k4 := hok 2 at3 sd3 (by omega)
  have p4 := fun w hS hg => hpk w at3 sd3 2 hS (by omega) (by omega) hg
  rcases hq4 : pk 2 at3 sd3 with ⟨r4, at4, sd4⟩
  simp only [hq4] at k4 p4
  have k5 := hok 2 at4 sd4 (by omega)
  have p5 := fun w hS hg => hon w at4 sd4 2 hS (by omega) (by omega) hg
  rcases hq5 : pk 2 at4 sd4 with ⟨r5, at5, sd5⟩
  simp only [hq5] at k5 p5
  have hw0 : IntKind.i64.wrap (q 0) = q 0 := wrap_in (by simp only [Wk.lo, Wk.hi]; omega)
  have hw1 : IntKind.i64.wrap (q 1) = q 1 := wrap_in (by simp only [Wk.lo, Wk.hi]; omega)
  have hw2 : IntKind.i8.wrap r1 = r1 := wrap_in (by simp only [Wk.lo, Wk.hi]; omega)
  have hw3 : IntKind.i8.wrap r2 = r2 := wrap_in (by simp only [Wk.lo, Wk.hi]; omega)
  have hw4 : IntKind.i16.wrap v3 = v3 := wrap_in (by simp only [Wk.lo, Wk.hi]; omega)
  have hw5 : IntKind.i8.wrap r4 = r4 := wrap_in (by simp only [Wk.lo, Wk.hi]; omega)
  have hic : isC (q 0) (q 1) r1 r2 = true := by unfold isC inB; simp; omega
  have hic0 : isC (q 0) (q 1) 0 0 = true := by unfold isC inB; simp; omega
  clear hq1 hq2 hq3 hq3' hq4 hq5
  by_cases h5 : r5 = 0
  case neg =>
    refine enter2 Try.func65 rfl rfl rfl (Own.startAt w hg) ?_
    repeat' (first | (refine s_g ?_; first | (refine s_k 0 rfl ?_; refine zsv (r_move rfl rfl) ?_) | (refine s_k 23 rfl ?_; first | refine zsv (r_field tb rfl rfl rfl) ?_ | refine zsv (r_fieldS tb rfl rfl rfl) ?_) | (refine s_k 8 rfl ?_; first | refine zsv (r_ldo rfl rfl hgp (by simp [hne]) (ldv1 tb rfl g0)) ?_ | refine zsv (r_ldo rfl rfl hgp (by simp [hne]) (ldv1 tb rfl g1)) ?_ | (refine' s_val rfl rfl rfl (r_ldv rfl rfl ?qm ?qv) ?_; (case qm => (exact zMm)); (case qv => (exact zLe))) | (refine' s_val rfl rfl rfl (r_ldo rfl rfl ?qw (by simp) ?qv) ?_; (case qw => assumption); (case qv => (exact zLe)))) | (refine s_k 1 rfl ?_; refine zsv (r_assign rfl rfl) ?_) | (refine s_k 35 rfl ?_; first | (refine s_callM1 Try.func66 (by kernel_rfl) rfl rfl rfl rfl rfl rfl (fun w hL hg => p1 w (hS.at_ hL) hg) fun cs5 hcs5 => ?_; subst hcs5) | (refine s_callM1 Try.func66 (by kernel_rfl) rfl rfl rfl rfl rfl rfl (fun w hL hg => p2 w (hS.at_ hL) hg) fun cs5 hcs5 => ?_; subst hcs5) | (refine s_callM3 Try.func117 (by kernel_rfl) rfl rfl rfl rfl rfl rfl (fun w hL hg => p3 w _ _ (hS.at_ hL) hg (hL.at_ m0) (fun e => Kn.ne0 hL m2 e.symm)) fun cs5 hcs5 => ?_; subst hcs5) | (refine s_callM3 Try.func66 (by kernel_rfl) rfl rfl rfl rfl rfl rfl (fun w hL hg => p4 w (hS.at_ hL) hg) fun cs5 hcs5 => ?_; subst hcs5) | (refine s_callM3 Try.func116 (by kernel_rfl) rfl rfl rfl rfl rfl rfl (fun w hL hg => p5 w (hS.at_ hL) hg) fun cs5 hcs5 => ?_; subst hcs5)) | (refine s_k 15 rfl ?_; first | refine zsv (r_conv tb rfl rfl rfl rfl hw0) ?_ | refine zsv (r_conv tb rfl rfl rfl rfl hw1) ?_ | refine zsv (r_conv tb rfl rfl rfl rfl hw2) ?_ | refine zsv (r_conv tb rfl rfl rfl rfl hw3) ?_ | refine zsv (r_conv tb rfl rfl rfl rfl hw4) ?_ | refine zsv (r_conv tb rfl rfl rfl rfl hw5) ?_ | refine zsv (r_conv tb rfl rfl rfl rfl zWr) ?_) | (refine s_k 9 rfl ?_; (first | refine s_st1 tb rfl rfl rfl rfl rfl rfl rfl rfl ?_ | refine s_stA tb rfl rfl rfl rfl zSz rfl rfl ?_); (first | refine' st0 ?qs ?_ | refine' st1 ?qs ?_ | refine' st2 ?qs ?_ | refine' st3 ?qs ?_ | refine' st4 ?qs ?_ | refine' st5 ?qs ?_ | refine' st6 ?qs ?_ | refine' st7 ?qs ?_ | refine' st8 ?qs ?_ | refine' st9 ?qs ?_ | refine' st10 ?qs ?_ | refine' st11 ?qs ?_); (case qs => (first | exact set_whole (vs := gtA ⟨r1, r2, 0, 0, -1, 0, 0⟩) rfl (by simp [gtA, Value.oneCell']) | exact set_whole (vs := gtA ⟨r1, r2, 0, 0, -1, v3, r4⟩) rfl (by simp [gtA, Value.oneCell']) | exact zSet))) | (refine s_k 3 rfl ?_; first | refine s_allocA (t := 68) rfl zImplGoat0 rfl rfl rfl fun blk => ?_ | refine s_allocA (t := 66) rfl zImplSpot rfl rfl rfl fun blk => ?_) | (refine s_k 12 rfl ?_; refine zsv (r_nil rfl rfl) ?_) | (refine s_k 5 rfl ?_; first | refine zsv (r_build rfl rfl (fun w => bSpot _ _ rfl rfl w)) ?_ | refine zsv (r_build rfl rfl (fun w => bGoatW _ _ w)) ?_) | (refine s_k 6 rfl ?_; first | refine s_bsl rfl rfl (fun w => slI7 w) rfl rfl rfl fun blk => ?_ | refine s_bsl rfl rfl (fun w => slI6 w) rfl rfl rfl fun blk => ?_) | refine s_nil ?_) | (refine c_g ?_; first | refine c_seq ?_ | refine c_region ?_ | (refine c_gc ?_; first | refine c_cond1 rfl zTr ?_ | refine c_cond0 rfl zTr ?_) | refine c_block ?_ | refine c_skip ?_ | refine c_exit ?_ | refine c_ret ?_) | (refine e_g ?_; first | refine e_then ?_ | refine e_blkn ?_ | refine e_thenx ?_ | refine e_thenr ?_ | refine e_blkr ?_ | refine e_blkx ?_ | refine e_blky rfl ?_) | (refine e_ret1 (by simp) rfl (re_cell tb rfl m2 rfl rfl) fun w hL => ⟨(⟨r1, r2, 0, 0, -1, v3, r4⟩, at5, sd5), ⟨goatOk_of hic hic0 (by simp) e3 (by simp only; omega) (.inl ⟨rfl, rfl, rfl⟩), by unfold Gt.ok; simp only; omega, by simp only; omega, by simp only; omega⟩, rfl, Upd.of hL m3⟩))
  case pos =>
    have k6 := hok 6 at5 sd5 (by omega)
    have p6 := fun w gx T hS hg hgx hne2 => ham w at5 sd5 [0, 1, 2, 4, 9, 200] gx T hS (by omega) (by omega) (by simp) (by simp) hg hgx hne2
    simp only [List.length_cons, List.length_nil] at p6
    rcases hq6 : pk 6 at5 sd5 with ⟨r6, at6, sd6⟩
    have hq6' : pk ((0 + 1 + 1 + 1 + 1 + 1 + 1 : Nat) : Int) at5 sd5 = (r6, at6, sd6) := hq6
    simp only [hq6] at k6
    simp only [hq6'] at p6
    have e6 := am6 r6.toNat (by omega)
    generalize ([0, 1, 2, 4, 9, 200] : List Int).getD r6.toNat 0 = v6 at *
    have k7 := hok 2 at6 sd6 (by omega)
    have p7 := fun w hS hg => hon w at6 sd6 2 hS (by omega) (by omega) hg
    rcases hq7 : pk 2 at6 sd6 with ⟨r7, at7, sd7⟩
    simp only [hq7] at k7 p7
    have hw6 : IntKind.i16.wrap v6 = v6 := wrap_in (by simp only [Wk.lo, Wk.hi]; omega)
    clear hq6 hq6' hq7
    by_cases h7 : r7 = 0
    case neg =>
      refine enter2 Try.func65 rfl rfl rfl (Own.startAt w hg) ?_
      repeat' (first | (refine s_g ?_; first | (refine s_k 0 rfl ?_; refine zsv (r_move rfl rfl) ?_) | (refine s_k 23 rfl ?_; first | refine zsv (r_field tb rfl rfl rfl) ?_ | refine zsv (r_fieldS tb rfl rfl rfl) ?_) | (refine s_k 8 rfl ?_; first | refine zsv (r_ldo rfl rfl hgp (by simp [hne]) (ldv1 tb rfl g0)) ?_ | refine zsv (r_ldo rfl rfl hgp (by simp [hne]) (ldv1 tb rfl g1)) ?_ | (refine' s_val rfl rfl rfl (r_ldv rfl rfl ?qm ?qv) ?_; (case qm => (exact zMm)); (case qv => (exact zLe))) | (refine' s_val rfl rfl rfl (r_ldo rfl rfl ?qw (by simp) ?qv) ?_; (case qw => assumption); (case qv => (exact zLe)))) | (refine s_k 1 rfl ?_; refine zsv (r_assign rfl rfl) ?_) | (refine s_k 35 rfl ?_; first | (refine s_callM1 Try.func66 (by kernel_rfl) rfl rfl rfl rfl rfl rfl (fun w hL hg => p1 w (hS.at_ hL) hg) fun cs5 hcs5 => ?_; subst hcs5) | (refine s_callM1 Try.func66 (by kernel_rfl) rfl rfl rfl rfl rfl rfl (fun w hL hg => p2 w (hS.at_ hL) hg) fun cs5 hcs5 => ?_; subst hcs5) | (refine s_callM3 Try.func117 (by kernel_rfl) rfl rfl rfl rfl rfl rfl (fun w hL hg => p3 w _ _ (hS.at_ hL) hg (hL.at_ m0) (fun e => Kn.ne0 hL m2 e.symm)) fun cs5 hcs5 => ?_; subst hcs5) | (refine s_callM3 Try.func66 (by kernel_rfl) rfl rfl rfl rfl rfl rfl (fun w hL hg => p4 w (hS.at_ hL) hg) fun cs5 hcs5 => ?_; subst hcs5) | (refine s_callM3 Try.func116 (by kernel_rfl) rfl rfl rfl rfl rfl rfl (fun w hL hg => p5 w (hS.at_ hL) hg) fun cs5 hcs5 => ?_; subst hcs5) | (refine s_callM4 Try.func117 (by kernel_rfl) rfl rfl rfl rfl rfl rfl (fun w hL hg => p6 w _ _ (hS.at_ hL) hg (hL.at_ m0) (fun e => Kn.ne0 hL m3 e.symm)) fun cs5 hcs5 => ?_; subst hcs5) | (refine s_callM4 Try.func116 (by kernel_rfl) rfl rfl rfl rfl rfl rfl (fun w hL hg => p7 w (hS.at_ hL) hg) fun cs5 hcs5 => ?_; subst hcs5)) | (refine s_k 15 rfl ?_; first | refine zsv (r_conv tb rfl rfl rfl rfl hw0) ?_ | refine zsv (r_conv tb rfl rfl rfl rfl hw1) ?_ | refine zsv (r_conv tb rfl rfl rfl rfl hw2) ?_ | refine zsv (r_conv tb rfl rfl rfl rfl hw3) ?_ | refine zsv (r_conv tb rfl rfl rfl rfl hw4) ?_ | refine zsv (r_conv tb rfl rfl rfl rfl hw5) ?_ | refine zsv (r_conv tb rfl rfl rfl rfl hw6) ?_ | refine zsv (r_conv tb rfl rfl rfl rfl zWr) ?_) | (refine s_k 9 rfl ?_; (first | refine s_st1 tb rfl rfl rfl rfl rfl rfl rfl rfl ?_ | refine s_stA tb rfl rfl rfl rfl zSz rfl rfl ?_); (first | refine' st0 ?qs ?_ | refine' st1 ?qs ?_ | refine' st2 ?qs ?_ | refine' st3 ?qs ?_ | refine' st4 ?qs ?_ | refine' st5 ?qs ?_ | refine' st6 ?qs ?_ | refine' st7 ?qs ?_ | refine' st8 ?qs ?_ | refine' st9 ?qs ?_ | refine' st10 ?qs ?_ | refine' st11 ?qs ?_); (case qs => (first | exact set_whole (vs := gtA ⟨r1, r2, 0, 0, -1, 0, 0⟩) rfl (by simp [gtA, Value.oneCell']) | exact set_whole (vs := gtA ⟨r1, r2, r1, r2, v6, v3, r4⟩) rfl (by simp [gtA, Value.oneCell']) | exact set2_2 rfl rfl | exact zSet))) | (refine s_k 3 rfl ?_; first | refine s_allocA (t := 68) rfl zImplGoat0 rfl rfl rfl fun blk => ?_ | refine s_allocA (t := 66) rfl zImplSpot rfl rfl rfl fun blk => ?_) | (refine s_k 12 rfl ?_; refine zsv (r_nil rfl rfl) ?_) | (refine s_k 5 rfl ?_; first | refine zsv (r_build rfl rfl (fun w => bSpot _ _ rfl rfl w)) ?_ | refine zsv (r_build rfl rfl (fun w => bGoatW _ _ w)) ?_) | (refine s_k 6 rfl ?_; first | refine s_bsl rfl rfl (fun w => slI7 w) rfl rfl rfl fun blk => ?_ | refine s_bsl rfl rfl (fun w => slI6 w) rfl rfl rfl fun blk => ?_) | refine s_nil ?_) | (refine c_g ?_; first | refine c_seq ?_ | refine c_region ?_ | (refine c_gc ?_; first | refine c_cond1 rfl zTr ?_ | refine c_cond0 rfl zTr ?_) | refine c_block ?_ | refine c_skip ?_ | refine c_exit ?_ | refine c_ret ?_) | (refine e_g ?_; first | refine e_then ?_ | refine e_blkn ?_ | refine e_thenx ?_ | refine e_thenr ?_ | refine e_blkr ?_ | refine e_blkx ?_ | refine e_blky rfl ?_) | (refine e_ret1 (by simp) rfl (re_cell tb rfl m3 rfl rfl) fun w hL => ⟨(⟨r1, r2, r1, r2, v6, v3, r4⟩, at7, sd7), ⟨goatOk_of hic hic (by simp only; omega) e3 (by simp only; omega) (.inr ⟨e6.1, by unfold sqA; simp; exact e6.1⟩), by unfold Gt.ok; simp only; omega, by simp only; omega, by simp only; omega⟩, rfl, Upd.of hL m4⟩))
    case pos =>
      have k8 := hok (q 0) at7 sd7 (by omega)
      have p8 := fun w hS hg => hpk w at7 sd7 (q 0) hS (by omega) (by omega) hg
      rcases hq8 : pk (q 0) at7 sd7 with ⟨r8, at8, sd8⟩
      simp only [hq8] at k8 p8
      have k9 := hok (q 1) at8 sd8 (by omega)
      have p9 := fun w hS hg => hpk w at8 sd8 (q 1) hS (by omega) (by omega) hg
      rcases hq9 : pk (q 1) at8 sd8 with ⟨r9, at9, sd9⟩
      simp only [hq9] at k9 p9
      clear hq8 hq9
      have hw8 : IntKind.i8.wrap r8 = r8 := wrap_in (by simp only [Wk.lo, Wk.hi]; omega)
      have hw9 : IntKind.i8.wrap r9 = r9 := wrap_in (by simp only [Wk.lo, Wk.hi]; omega)
      have hic9 : isC (q 0) (q 1) r8 r9 = true := by unfold isC inB; simp; omega
      have hsq := fun w => l02Square_any ⟨r1, r2⟩ ⟨r8, r9⟩ w (by unfold Sp.ok; simp only; omega) (by unfold Sp.ok; simp only; omega)
      have hsA := sqA_of r1 r2 r8 r9
      have hsr : 0 ≤ sqOf ⟨r1, r2⟩ ⟨r8, r9⟩ ∧ sqOf ⟨r1, r2⟩ ⟨r8, r9⟩ ≤ 32 := by
        have q1 := sq4 (d := r1 - r8) (by omega)
        have q2 := sq4 (d := r2 - r9) (by omega)
        unfold sqOf; simp only; omega
      generalize sqOf ⟨r1, r2⟩ ⟨r8, r9⟩ = sq at *
      have hmx := fun w => l00MaxG_any v6 sq w
      have hmr : v6 ≤ max v6 sq ∧ sq ≤ max v6 sq ∧ max v6 sq ≤ 200 := by omega
      generalize max v6 sq = mx at *
      have hwx : IntKind.i16.wrap mx = mx := wrap_in (by simp only [Wk.lo, Wk.hi]; omega)
      refine enter2 Try.func65 rfl rfl rfl (Own.startAt w hg) ?_
      repeat' (first | (refine s_g ?_; first | (refine s_k 0 rfl ?_; refine zsv (r_move rfl rfl) ?_) | (refine s_k 23 rfl ?_; first | refine zsv (r_field tb rfl rfl rfl) ?_ | refine zsv (r_fieldS tb rfl rfl rfl) ?_) | (refine s_k 8 rfl ?_; first | refine zsv (r_ldo rfl rfl hgp (by simp [hne]) (ldv1 tb rfl g0)) ?_ | refine zsv (r_ldo rfl rfl hgp (by simp [hne]) (ldv1 tb rfl g1)) ?_ | (refine' s_val rfl rfl rfl (r_ldv rfl rfl ?qm ?qv) ?_; (case qm => (exact zMm)); (case qv => (exact zLe))) | (refine' s_val rfl rfl rfl (r_ldo rfl rfl ?qw (by simp) ?qv) ?_; (case qw => assumption); (case qv => (exact zLe)))) | (refine s_k 1 rfl ?_; refine zsv (r_assign rfl rfl) ?_) | (refine s_k 35 rfl ?_; first | (refine s_call Try.func119 (by kernel_rfl) rfl rfl rfl rfl rfl rfl (fun w hL => hsq w) ?_) | (refine s_call Try.func118 (by kernel_rfl) rfl rfl rfl rfl rfl rfl (fun w hL => hmx w) ?_) | (refine s_callM1 Try.func66 (by kernel_rfl) rfl rfl rfl rfl rfl rfl (fun w hL hg => p1 w (hS.at_ hL) hg) fun cs5 hcs5 => ?_; subst hcs5) | (refine s_callM1 Try.func66 (by kernel_rfl) rfl rfl rfl rfl rfl rfl (fun w hL hg => p2 w (hS.at_ hL) hg) fun cs5 hcs5 => ?_; subst hcs5) | (refine s_callM3 Try.func117 (by kernel_rfl) rfl rfl rfl rfl rfl rfl (fun w hL hg => p3 w _ _ (hS.at_ hL) hg (hL.at_ m0) (fun e => Kn.ne0 hL m2 e.symm)) fun cs5 hcs5 => ?_; subst hcs5) | (refine s_callM3 Try.func66 (by kernel_rfl) rfl rfl rfl rfl rfl rfl (fun w hL hg => p4 w (hS.at_ hL) hg) fun cs5 hcs5 => ?_; subst hcs5) | (refine s_callM3 Try.func116 (by kernel_rfl) rfl rfl rfl rfl rfl rfl (fun w hL hg => p5 w (hS.at_ hL) hg) fun cs5 hcs5 => ?_; subst hcs5) | (refine s_callM4 Try.func117 (by kernel_rfl) rfl rfl rfl rfl rfl rfl (fun w hL hg => p6 w _ _ (hS.at_ hL) hg (hL.at_ m0) (fun e => Kn.ne0 hL m3 e.symm)) fun cs5 hcs5 => ?_; subst hcs5) | (refine s_callM4 Try.func116 (by kernel_rfl) rfl rfl rfl rfl rfl rfl (fun w hL hg => p7 w (hS.at_ hL) hg) fun cs5 hcs5 => ?_; subst hcs5) | (refine s_callM4 Try.func66 (by kernel_rfl) rfl rfl rfl rfl rfl rfl (fun w hL hg => p8 w (hS.at_ hL) hg) fun cs5 hcs5 => ?_; subst hcs5) | (refine s_callM4 Try.func66 (by kernel_rfl) rfl rfl rfl rfl rfl rfl (fun w hL hg => p9 w (hS.at_ hL) hg) fun cs5 hcs5 => ?_; subst hcs5)) | (refine s_k 15 rfl ?_; first | refine zsv (r_conv tb rfl rfl rfl rfl hw0) ?_ | refine zsv (r_conv tb rfl rfl rfl rfl hw1) ?_ | refine zsv (r_conv tb rfl rfl rfl rfl hw2) ?_ | refine zsv (r_conv tb rfl rfl rfl rfl hw3) ?_ | refine zsv (r_conv tb rfl rfl rfl rfl hw4) ?_ | refine zsv (r_conv tb rfl rfl rfl rfl hw5) ?_ | refine zsv (r_conv tb rfl rfl rfl rfl hw6) ?_ | refine zsv (r_conv tb rfl rfl rfl rfl hw8) ?_ | refine zsv (r_conv tb rfl rfl rfl rfl hw9) ?_ | refine zsv (r_conv tb rfl rfl rfl rfl hwx) ?_ | refine zsv (r_conv tb rfl rfl rfl rfl zWr) ?_) | (refine s_k 9 rfl ?_; (first | refine s_st1 tb rfl rfl rfl rfl rfl rfl rfl rfl ?_ | refine s_stA tb rfl rfl rfl rfl zSz rfl rfl ?_); (first | refine' st0 ?qs ?_ | refine' st1 ?qs ?_ | refine' st2 ?qs ?_ | refine' st3 ?qs ?_ | refine' st4 ?qs ?_ | refine' st5 ?qs ?_ | refine' st6 ?qs ?_ | refine' st7 ?qs ?_ | refine' st8 ?qs ?_ | refine' st9 ?qs ?_ | refine' st10 ?qs ?_ | refine' st11 ?qs ?_); (case qs => (first | exact set_whole (vs := gtA ⟨r1, r2, 0, 0, -1, 0, 0⟩) rfl (by simp [gtA, Value.oneCell']) | exact set_whole (vs := gtA ⟨r1, r2, r8, r9, mx, v3, r4⟩) rfl (by simp [gtA, Value.oneCell']) | exact set2_2 rfl rfl | exact set_whole (vs := #[.int .i8 r8, .int .i8 r9]) rfl (by simp [Value.oneCell']) | exact zSet))) | (refine s_k 3 rfl ?_; first | refine s_allocA (t := 68) rfl zImplGoat0 rfl rfl rfl fun blk => ?_ | refine s_allocA (t := 66) rfl zImplSpot rfl rfl rfl fun blk => ?_) | (refine s_k 12 rfl ?_; refine zsv (r_nil rfl rfl) ?_) | (refine s_k 5 rfl ?_; first | refine zsv (r_build rfl rfl (fun w => bSpot _ _ rfl rfl w)) ?_ | refine zsv (r_build rfl rfl (fun w => bGoatW _ _ w)) ?_) | (refine s_k 6 rfl ?_; first | refine s_bsl rfl rfl (fun w => slI7 w) rfl rfl rfl fun blk => ?_ | refine s_bsl rfl rfl (fun w => slI6 w) rfl rfl rfl fun blk => ?_) | refine s_nil ?_) | (refine c_g ?_; first | refine c_seq ?_ | refine c_region ?_ | (refine c_gc ?_; first | refine c_cond1 rfl zTr ?_ | refine c_cond0 rfl zTr ?_) | refine c_block ?_ | refine c_skip ?_ | refine c_exit ?_ | refine c_ret ?_) | (refine e_g ?_; first | refine e_then ?_ | refine e_blkn ?_ | refine e_thenx ?_ | refine e_thenr ?_ | refine e_blkr ?_ | refine e_blkx ?_ | refine e_blky rfl ?_) | (refine x_g ?_; first | (refine x_k 0 rfl ?_; (refine zxv (r_move rfl rfl) ?hp ?_; (case hp => exact rfl))) | (refine x_k 23 rfl ?_; first | (refine zxv (r_field tb rfl rfl rfl) ?hp ?_; (case hp => exact rfl)) | (refine zxv (r_fieldS tb rfl rfl rfl) ?hp ?_; (case hp => exact rfl))) | (refine x_k 8 rfl ?_; first | (refine zxv (r_ldo rfl rfl hgp (by simp [hne]) (ldv1 tb rfl g0)) ?hp ?_; (case hp => exact rfl)) | (refine zxv (r_ldo rfl rfl hgp (by simp [hne]) (ldv1 tb rfl g1)) ?hp ?_; (case hp => exact rfl)) | (refine' x_val rfl rfl rfl (r_ldv rfl rfl ?qm ?qv) ?hp ?_; (case qm => (exact zMm)); (case qv => (exact zLe)); (case hp => exact rfl)) | (refine' x_val rfl rfl rfl (r_ldo rfl rfl ?qw (by simp) ?qv) ?hp ?_; (case qw => assumption); (case qv => (exact zLe)); (case hp => exact rfl))) | (refine x_k 1 rfl ?_; (refine zxv (r_assign rfl rfl) ?hp ?_; (case hp => exact rfl))) | (refine x_k 35 rfl ?_; first | (refine x_call Try.func119 (by kernel_rfl) rfl rfl rfl rfl rfl rfl (fun w hL => hsq w) ?hp ?_; (case hp => exact rfl)) | (refine x_call Try.func118 (by kernel_rfl) rfl rfl rfl rfl rfl rfl (fun w hL => hmx w) ?hp ?_; (case hp => exact rfl))) | (refine x_k 15 rfl ?_; first | (refine zxv (r_conv tb rfl rfl rfl rfl hw0) ?hp ?_; (case hp => exact rfl)) | (refine zxv (r_conv tb rfl rfl rfl rfl hw1) ?hp ?_; (case hp => exact rfl)) | (refine zxv (r_conv tb rfl rfl rfl rfl hw2) ?hp ?_; (case hp => exact rfl)) | (refine zxv (r_conv tb rfl rfl rfl rfl hw3) ?hp ?_; (case hp => exact rfl)) | (refine zxv (r_conv tb rfl rfl rfl rfl hw4) ?hp ?_; (case hp => exact rfl)) | (refine zxv (r_conv tb rfl rfl rfl rfl hw5) ?hp ?_; (case hp => exact rfl)) | (refine zxv (r_conv tb rfl rfl rfl rfl hw6) ?hp ?_; (case hp => exact rfl)) | (refine zxv (r_conv tb rfl rfl rfl rfl hw8) ?hp ?_; (case hp => exact rfl)) | (refine zxv (r_conv tb rfl rfl rfl rfl hw9) ?hp ?_; (case hp => exact rfl)) | (refine zxv (r_conv tb rfl rfl rfl rfl hwx) ?hp ?_; (case hp => exact rfl)) | (refine zxv (r_conv tb rfl rfl rfl rfl zWr) ?hp ?_; (case hp => exact rfl))) | (refine x_k 9 rfl ?_; first | (refine' x_putA0 tb rfl rfl rfl rfl zSz ?qs zSz rfl rfl ?hp ?_; (case qs => (first | exact set_whole (vs := gtA ⟨r1, r2, 0, 0, -1, 0, 0⟩) rfl (by simp [gtA, Value.oneCell']) | exact set_whole (vs := gtA ⟨r1, r2, r8, r9, mx, v3, r4⟩) rfl (by simp [gtA, Value.oneCell']) | exact set2_2 rfl rfl | exact set_whole (vs := #[.int .i8 r8, .int .i8 r9]) rfl (by simp [Value.oneCell']) | exact zSet)); (case hp => exact rfl)) | (refine' x_putA1 tb rfl rfl rfl rfl zSz ?qs zSz rfl rfl ?hp ?_; (case qs => (first | exact set_whole (vs := gtA ⟨r1, r2, 0, 0, -1, 0, 0⟩) rfl (by simp [gtA, Value.oneCell']) | exact set_whole (vs := gtA ⟨r1, r2, r8, r9, mx, v3, r4⟩) rfl (by simp [gtA, Value.oneCell']) | exact set2_2 rfl rfl | exact set_whole (vs := #[.int .i8 r8, .int .i8 r9]) rfl (by simp [Value.oneCell']) | exact zSet)); (case hp => exact rfl)) | (refine' x_putA2 tb rfl rfl rfl rfl zSz ?qs zSz rfl rfl ?hp ?_; (case qs => (first | exact set_whole (vs := gtA ⟨r1, r2, 0, 0, -1, 0, 0⟩) rfl (by simp [gtA, Value.oneCell']) | exact set_whole (vs := gtA ⟨r1, r2, r8, r9, mx, v3, r4⟩) rfl (by simp [gtA, Value.oneCell']) | exact set2_2 rfl rfl | exact set_whole (vs := #[.int .i8 r8, .int .i8 r9]) rfl (by simp [Value.oneCell']) | exact zSet)); (case hp => exact rfl))) | (refine x_k 3 rfl ?_; first | (refine x_allocA (t := 68) rfl zImplGoat0 rfl rfl rfl ?hp (fun blk => ?_); (case hp => exact rfl)) | (refine x_allocA (t := 66) rfl zImplSpot rfl rfl rfl ?hp (fun blk => ?_); (case hp => exact rfl))) | (refine x_k 12 rfl ?_; (refine zxv (r_nil rfl rfl) ?hp ?_; (case hp => exact rfl))) | (refine x_k 5 rfl ?_; first | (refine zxv (r_build rfl rfl (fun w => bSpot _ _ rfl rfl w)) ?hp ?_; (case hp => exact rfl)) | (refine zxv (r_build rfl rfl (fun w => bGoatW _ _ w)) ?hp ?_; (case hp => exact rfl))) | refine x_nil0 ?_ | refine x_nil ?_) | (refine' c_drawXT (id := 12) 10 [(.inl _ : zQ), (.inl _ : zQ), (.inl _ : zQ), (.inl _ : zQ), (.inl _ : zQ), (.inl _ : zQ), (.inl _ : zQ), (.inl _ : zQ), (.inl _ : zQ), (.inl _ : zQ)] (by kernel_rfl) (by kernel_rfl) (by kernel_rfl) ?_) | refine e_tail ?_ | (refine e_ret1 (by simp) rfl (re_cell tb rfl m4 rfl rfl) fun w hL => ⟨(⟨r1, r2, r8, r9, mx, v3, r4⟩, at9, sd9), ⟨goatOk_of hic hic9 (by simp only; omega) e3 (by simp only; omega) (.inr ⟨by simp only; omega, by simp only [hsA]; omega⟩), by unfold Gt.ok; simp only; omega, by simp only; omega, by simp only; omega⟩, rfl, Upd.of hL m5⟩))
end Go.Proofs.Ytnfdefeafhepkaa
