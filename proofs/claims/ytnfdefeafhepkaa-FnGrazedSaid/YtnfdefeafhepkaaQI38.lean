import Derived.Test.YtnfdefeafhepkaaQI25
import Derived.Test.YtnfdefeafhepkaaQI35
import Derived.Test.YtnfdefeafhepkaaQI37
set_option linter.unusedVariables false
set_option linter.unusedSimpArgs false
namespace Go.Proofs.Ytnfdefeafhepkaa
open Go.RowKit Mem Wk
attribute [local irreducible] Calls Wk.S Wk.C Wk.E Wk.X Wk.T Wk.Y Wk.anV Wk.orV Wk.andV Wk.shlV Wk.shrV Calm.wpLex CalmB.wpLex bfsN
def gtC (p : Nat → Int) (g : Gt) : Int := if validP p && goatOk p g then 0 else 1
theorem validGt1 (p : Nat → Int) (g : Gt) : validGt p [g] = (validP p && goatOk p g) := by unfold validGt; simp
theorem slGt1 (a b c d e f h : Value) (w : World) : (Instr.buildSlice 52 1 #[(0, .agg #[a, b, c, d, e, f, h])]).run Try.prog w = .ok (.slice (some ⟨w.heap.size, 0, none⟩) 1 1) (w.alloc (.cells #[a, b, c, d, e, f, h] 68 (0, 0))) := by kernel_rfl
theorem sl1_gt {w : World} {b : Nat} {T : TypeId} (g : Gt) (h : w.heap[b]? = some (.cells #[.int .i8 g.x, .int .i8 g.y, .int .i8 g.u, .int .i8 g.v, .int .i16 g.rope, .int .i16 g.eats, .int .i8 g.likes] T (0, 0))) : Sl w 7 (.slice (some ⟨b, 0, none⟩) 1 1) ([g].map Gt.cells) :=
  Sl.of_block (n := 1) (by intro c hc; simp at hc; subst hc; rfl) rfl (by unfold maxLen; omega) h (fun j _ => by simp [Gt.cells])
set_option maxRecDepth 100000 in
theorem goatCode_new (p : Nat → Int) (cs : Array Value) (v : Value) (l : List Gt) (w : World) (hp : Pv p cs) (hl : Sl w 7 v (l.map Gt.cells)) (hok : ∀ s ∈ l, s.ok) :
    Calls Try.prog 69 #[.agg cs, v] w fun e w' => e = .returned (.int .i64 (if validGt p l then 0 else 1)) ∧ Below w.heap.size w w' := by
  have hsz := hp.size
  refine enter2 Try.func69 rfl rfl rfl (Own.start w) ?_
  repeat' (first | (refine s_g ?_; first | (refine s_k 0 rfl ?_; refine zsv (r_move rfl rfl) ?_) | (refine s_k 8 rfl ?_; first | (refine' s_val rfl rfl rfl (r_ldv rfl rfl ?qm ?qv) ?_; (case qm => (exact zMm)); (case qv => (exact zLe))) | (refine' s_val rfl rfl rfl (r_ldo rfl rfl ?qw (by simp) ?qv) ?_; (case qw => assumption); (case qv => (exact zLe)))) | (refine s_k 1 rfl ?_; refine zsv (r_assign rfl rfl) ?_) | (refine s_k 35 rfl ?_; first | (refine s_call Try.func30 (by kernel_rfl) rfl rfl rfl rfl rfl rfl (fun w hL => implValidGoats_any p cs _ l _ hp (hl.below hL.toBelow) hok) ?_) | (refine s_call Try.func51 (by kernel_rfl) rfl rfl rfl rfl rfl rfl (fun w hL => to_below (unless0_any _ _ _) rfl) ?_)) | (refine s_k 4 rfl ?_; first | refine s_boxA rfl rfl rfl rfl rfl fun blk => ?_ | refine s_box1 rfl rfl rfl rfl rfl rfl fun blk => ?_) | refine s_nil ?_) | (refine c_g ?_; first | refine c_seq ?_ | refine c_region ?_ | (refine c_gc ?_; first | refine c_cond1 rfl zTr ?_ | refine c_cond0 rfl zTr ?_) | refine c_block ?_ | refine c_skip ?_ | refine c_exit ?_ | refine c_ret ?_) | (refine e_g ?_; first | refine e_then ?_ | refine e_blkn ?_ | refine e_thenx ?_ | refine e_thenr ?_ | refine e_blkr ?_ | refine e_blkx ?_ | refine e_blky rfl ?_) | (refine e_ret1 (by simp) rfl (re_tmp rfl) fun w hL => ⟨rfl, hL.toBelow⟩))
theorem goatCode1 {p : Nat → Int} {cs : Array Value} {g : Gt} {b : Nat} {T : TypeId} {w : World} (hp : Pv p cs) (hs : g.ok) (h : w.heap[b]? = some (.cells #[.int .i8 g.x, .int .i8 g.y, .int .i8 g.u, .int .i8 g.v, .int .i16 g.rope, .int .i16 g.eats, .int .i8 g.likes] T (0, 0))) :
    Calls Try.prog 69 #[.agg cs, .slice (some ⟨b, 0, none⟩) 1 1] w fun e w' => e = .returned (.int .i64 (gtC p g)) ∧ Below w.heap.size w w' := by
  have h1 := goatCode_new p cs _ [g] w hp (sl1_gt g h) (fun t ht => by simp at ht; subst ht; exact hs)
  rw [validGt1] at h1; exact h1
theorem valid_le3 {p : Nat → Int} (h : validP p = true) : p 0 ≤ 10 ∧ p 1 ≤ 10 := by
  unfold validP inB at h; simp at h; omega
theorem cellsAt_box {w : World} {b : Nat} {T : TypeId} {g : Gt} (h : w.heap[b]? = some (.cells #[.int .i8 g.x, .int .i8 g.y, .int .i8 g.u, .int .i8 g.v, .int .i16 g.rope, .int .i16 g.eats, .int .i8 g.likes] T (0, 0))) : CellsAt w b 0 g.cells := fun j u hu => by
  rw [cell_of_row w b _ _ T (0, 0) h, Nat.zero_add]; simpa [Gt.cells] using hu
set_option maxRecDepth 100000 in
theorem l02One_any (p : Nat → Int) (cs : Array Value) (T T' : TypeId) (gp gg : Nat) (g : Gt) (w : World) (hp : Pv p cs) (hgp : w.heap[gp]? = some (.cells cs T (0, 0))) (hgg : w.heap[gg]? = some (.cells #[.int .i8 g.x, .int .i8 g.y, .int .i8 g.u, .int .i8 g.v, .int .i16 g.rope, .int .i16 g.eats, .int .i8 g.likes] T' (0, 0))) (hg : g.ok) :
    Calls Try.prog 81 #[.pointer (some ⟨gp, 0, none⟩), .pointer (some ⟨gg, 0, none⟩)] w fun e w' => e = .returned (.int .i64 (gtC p g)) ∧ Below w.heap.size w w' := by
  cases hv : validP p
  case false =>
    refine enter2 Try.func81 rfl rfl rfl (Own.start w) ?_
    repeat' (first | (refine s_g ?_; first | (refine s_gd rfl ?_; first | refine s_gd1 rfl rfl zTr ?_ | refine s_gd0 rfl rfl rfl zTr ?_ | refine s_gd00 rfl rfl zTr ?_) | (refine s_k 0 rfl ?_; refine zsv (r_move rfl rfl) ?_) | (refine s_k 1 rfl ?_; refine zsv (r_assign rfl rfl) ?_) | (refine s_k 35 rfl ?_; (refine s_call Try.func57 (by kernel_rfl) rfl rfl rfl rfl rfl rfl (fun w hL => (by have h := l01Ok_any p cs T gp _ hp (Kn.old hL hgp (by simp)); rw [hv] at h; exact h)) ?_)) | (refine s_k 14 rfl ?_; refine zsv (r_not rfl rfl) ?_) | (refine s_k 2 rfl ?_; first | refine zsv (r_pick1 rfl rfl zTr rfl) ?_ | refine zsv (r_pick0 rfl rfl zTr rfl) ?_) | refine s_nil ?_) | (refine c_g ?_; first | refine c_seq ?_ | refine c_region ?_ | (refine c_gc ?_; first | refine c_cond1 rfl zTr ?_ | refine c_cond0 rfl zTr ?_) | refine c_block ?_ | refine c_skip ?_ | refine c_exit ?_ | refine c_ret ?_) | (refine e_g ?_; first | refine e_then ?_ | refine e_blkn ?_ | refine e_thenx ?_ | refine e_thenr ?_ | refine e_blkr ?_ | refine e_blkx ?_ | refine e_blky rfl ?_) | (refine e_ret1 (by simp) rfl (re_tmp rfl) fun w hL => ⟨by simp [gtC, hv], hL.toBelow⟩))
  case true =>
    have hle := valid_le3 hv
    cases hk : goatOk p g
    all_goals
      refine enter2 Try.func81 rfl rfl rfl (Own.start w) ?_
      repeat' (first | (refine s_g ?_; first | (refine s_gd rfl ?_; first | refine s_gd1 rfl rfl zTr ?_ | refine s_gd0 rfl rfl rfl zTr ?_ | refine s_gd00 rfl rfl zTr ?_) | (refine s_k 0 rfl ?_; refine zsv (r_move rfl rfl) ?_) | (refine s_k 1 rfl ?_; refine zsv (r_assign rfl rfl) ?_) | (refine s_k 35 rfl ?_; first | (refine s_call Try.func57 (by kernel_rfl) rfl rfl rfl rfl rfl rfl (fun w hL => (by have h := l01Ok_any p cs T gp _ hp (Kn.old hL hgp (by simp)); rw [hv] at h; exact h)) ?_) | (refine s_call Try.func124 (by kernel_rfl) rfl rfl rfl rfl rfl rfl (fun w hL => (by have h := l02Goat_any p cs T gp gg 0 g _ hp (Kn.old hL hgp (by simp)) hle.1 hle.2 hg (cellsAt_box (Kn.old hL hgg (by simp))); rw [hk] at h; exact h)) ?_)) | (refine s_k 14 rfl ?_; refine zsv (r_not rfl rfl) ?_) | (refine s_k 2 rfl ?_; first | refine zsv (r_pick1 rfl rfl zTr rfl) ?_ | refine zsv (r_pick0 rfl rfl zTr rfl) ?_) | refine s_nil ?_) | (refine c_g ?_; first | refine c_seq ?_ | refine c_region ?_ | (refine c_gc ?_; first | refine c_cond1 rfl zTr ?_ | refine c_cond0 rfl zTr ?_) | refine c_block ?_ | refine c_skip ?_ | refine c_exit ?_ | refine c_ret ?_) | (refine e_g ?_; first | refine e_then ?_ | refine e_blkn ?_ | refine e_thenx ?_ | refine e_thenr ?_ | refine e_blkr ?_ | refine e_blkx ?_ | refine e_blky rfl ?_) | (refine e_ret1 (by simp) rfl (re_tmp rfl) fun w hL => ⟨by simp [gtC, hv, hk], hL.toBelow⟩))
theorem gtC0 {p : Nat → Int} {g : Gt} (h : gtC p g = 0) : p 0 ≤ 10 ∧ p 1 ≤ 10 ∧ isC (p 0) (p 1) g.x g.y = true ∧ -1 ≤ g.rope := by
  unfold gtC at h
  split at h
  · rename_i h1
    simp only [Bool.and_eq_true] at h1
    have := valid_le3 h1.1
    have h2 := h1.2
    unfold goatOk plainG inB at h2
    simp only [Bool.and_eq_true, decide_eq_true_eq] at h2
    exact ⟨this.1, this.2, h2.1, by omega⟩
  · cases h
set_option maxRecDepth 100000 in
theorem specCellsFor_ok (p : Nat → Int) (cs : Array Value) (g : Gt) (w : World) (hp : Pv p cs) (hs : g.ok) (h0 : gtC p g = 0) :
    Calls Try.prog 31 #[.agg cs, .agg #[.int .i8 g.x, .int .i8 g.y, .int .i8 g.u, .int .i8 g.v, .int .i16 g.rope, .int .i16 g.eats, .int .i8 g.likes]] w (NewS2 66 2 (flS (gtlL p g)) 0 w) := by
  have hsz := hp.size
  obtain ⟨ha, hb, hc, hr⟩ := gtC0 h0
  refine enter2 Try.func31 rfl rfl rfl (Own.start w) ?_
  repeat' (first | (refine s_g ?_; first | (refine s_k 0 rfl ?_; refine zsv (r_move rfl rfl) ?_) | (refine s_k 1 rfl ?_; refine zsv (r_assign rfl rfl) ?_) | (refine s_k 13 rfl ?_; refine zsv (r_neq rfl rfl rfl) ?_) | (refine s_k 35 rfl ?_; first | (refine s_call Try.func81 (by kernel_rfl) rfl rfl rfl rfl rfl rfl (fun w hL => (by have h := l02One_any p cs _ _ _ _ g _ hp (hL.at_ m1) (hL.at_ m0) hs; rw [h0] at h; exact h)) ?_) | (refine s_callN Try.func82 (by kernel_rfl) rfl rfl rfl rfl rfl rfl (fun w hL => l02Cells_any p cs _ _ _ _ g w hp (hL.at_ m1) (hL.at_ m0) hs hr ha hb hc) fun gy k cap cur hA => ?_)) | (refine s_k 4 rfl ?_; first | refine s_boxA rfl rfl rfl rfl rfl fun blk => ?_ | refine s_box1 rfl rfl rfl rfl rfl rfl fun blk => ?_) | refine s_nil ?_) | (refine c_g ?_; first | refine c_seq ?_ | refine c_region ?_ | (refine c_gc ?_; first | refine c_cond1 rfl zTr ?_ | refine c_cond0 rfl zTr ?_) | refine c_block ?_ | refine c_skip ?_ | refine c_exit ?_ | refine c_ret ?_) | (refine e_g ?_; first | refine e_then ?_ | refine e_blkn ?_ | refine e_thenx ?_ | refine e_thenr ?_ | refine e_blkr ?_ | refine e_blkx ?_ | refine e_blky rfl ?_) | (refine e_ret2 (by simp) rfl (re_tmp rfl) (re_tmp rfl) fun w hL => NewS2.of hA hL m0))
end Go.Proofs.Ytnfdefeafhepkaa
namespace Go.Proofs.Ytnfdefeafhepkaa
open Go.RowKit Mem Wk
attribute [local irreducible] Calls Wk.S Wk.C Wk.E Wk.X Wk.T Wk.Y Wk.Z Wk.anV Wk.orV Wk.andV Wk.shlV Wk.shrV Calm.wpLex CalmB.wpLex CalmE.wpLex bfsN
set_option maxRecDepth 100000 in
theorem A2Pasture_any (bs : List Int) (A : Option Addr) (cap : Nat) (w : World) (hS : SlA [] w 1 A (byC bs)) (hb : ∀ b ∈ bs, 0 ≤ b ∧ b ≤ 255) (hn : bs.length ≤ 1048576) :
    Calls Try.prog 19 #[.slice A bs.length cap] w fun e w' => ∃ i : (Nat → Int) × Array Value, (Pv i.1 i.2 ∧ validP i.1 = true ∧ small i.1) ∧ e = .returned (.agg i.2) ∧ Below w.heap.size w w' := by
  refine enter1 Try.func19 rfl rfl rfl (Own.start w) ?_
  repeat' (first | (refine s_g ?_; first | (refine s_k 0 rfl ?_; refine zsv (r_move rfl rfl) ?_) | (refine s_k 35 rfl ?_; first | (refine s_from Try.func64 (by kernel_rfl) rfl rfl rfl rfl rfl rfl (fun w hL => from_any A bs.length cap w) fun gs => ?_) | (refine s_callR (ι := (Nat → Int) × Array Value × Int × Int) (fun i => Pv i.1 i.2.1 ∧ validP i.1 = true ∧ small i.1) (fun i => .agg i.2.1) (fun i => [(gs, 167, srcC A bs.length cap i.2.2.1 i.2.2.2), (_, 36, zP)]) Try.func63 (by kernel_rfl) rfl rfl rfl rfl rfl rfl (fun w hL => (drawn_any bs A cap _ 0 0 w (SlA.away hS hL m0 (by omega)) hb hn (by omega) (by omega) (hL.at_ m0)).mono fun e w' ⟨i, hi, he, hu⟩ => ⟨i, ⟨hi.1, hi.2.1, hi.2.2.1⟩, he, Kn.upd (i := 0) hL rfl hu⟩) (fun i hi => ?_); obtain ⟨q, c, at9, sd9⟩ := i; simp only at hi ⊢; have hpq := hi.1)) | (refine s_k 9 rfl ?_; (first | refine s_st1 tb rfl rfl rfl rfl rfl rfl rfl rfl ?_ | refine s_stA tb rfl rfl rfl rfl zSz rfl rfl ?_); (first | refine' st0 ?qs ?_ | refine' st1 ?qs ?_ | refine' st2 ?qs ?_ | refine' st3 ?qs ?_ | refine' st4 ?qs ?_ | refine' st5 ?qs ?_ | refine' st6 ?qs ?_ | refine' st7 ?qs ?_ | refine' st8 ?qs ?_ | refine' st9 ?qs ?_ | refine' st10 ?qs ?_ | refine' st11 ?qs ?_); (case qs => (first | exact setP hpq rfl | exact zSet))) | (refine s_k 3 rfl ?_; refine s_allocA (t := 36) rfl zImplPas rfl rfl rfl fun blk => ?_) | refine s_nil ?_) | (refine c_g ?_; first | refine c_seq ?_ | refine c_region ?_ | (refine c_gc ?_; first | refine c_cond1 rfl zTr ?_ | refine c_cond0 rfl zTr ?_) | refine c_block ?_ | refine c_skip ?_ | refine c_exit ?_ | refine c_ret ?_) | (refine e_g ?_; first | refine e_then ?_ | refine e_blkn ?_ | refine e_thenx ?_ | refine e_thenr ?_ | refine e_blkr ?_ | refine e_blkx ?_ | refine e_blky rfl ?_) | (refine e_ret1 (by simp) rfl (re_cell tb rfl m1 rfl hpq.size) fun w hL => ⟨(q, c), hi, rfl, hL.toBelow⟩))
structure AgI (q : Nat → Int) (L : List Gt) : Prop where
  pos : 0 < L.length
  le : L.length ≤ 4
  ok : ∀ g ∈ L, goatOk q g = true ∧ g.ok
set_option maxRecDepth 100000 in
set_option maxHeartbeats 1600000 in
theorem A2Goats_any (bs : List Int) (A : Option Addr) (cap : Nat) (q : Nat → Int) (cs : Array Value) (w : World) (hS : SlA [] w 1 A (byC bs)) (hb : ∀ b ∈ bs, 0 ≤ b ∧ b ≤ 255) (hn : bs.length ≤ 1048576) (hp : Pv q cs) (hsm : small q) :
    Calls Try.prog 20 #[.slice A bs.length cap, .agg cs] w fun e w' => ∃ L : List Gt, AgI q L ∧ NewS 68 7 (L.map Gt.cells).flatten w e w' := by
  have hsz := hp.size
  have hok := fun n at2 sd2 ha => pkV_ok hb n at2 sd2 ha
  have hpk := fun w gs at2 sd2 n hS ha hb2 hg => pick_any bs A cap gs at2 sd2 n w hS hb hn ha hb2 hg
  have hdr := fun w gs gp at2 sd2 T hS ha hb2 hg hgp hne => l02Drawn_any bs A cap gs at2 sd2 q cs T gp w hS hb hn ha hb2 hg hp hsm hgp hne
  generalize pkV bs = pk at *
  refine enter2 Try.func20 rfl rfl rfl (Own.start w) ?_
  repeat' (first | (refine s_g ?_; first | (refine s_k 0 rfl ?_; refine zsv (r_move rfl rfl) ?_) | (refine s_k 1 rfl ?_; refine zsv (r_assign rfl rfl) ?_) | (refine s_k 13 rfl ?_; first | refine zsv (r_sub rfl rfl rfl zWr) ?_ | refine zsv (r_gtr rfl rfl rfl) ?_) | (refine s_k 35 rfl ?_; first | (refine s_from Try.func64 (by kernel_rfl) rfl rfl rfl rfl rfl rfl (fun w hL => from_any A bs.length cap w) fun gs => ?_) | (refine s_callR (ι := Gt × Int × Int) (fun i => goatOk q i.1 = true ∧ i.1.ok ∧ 0 ≤ i.2.1 ∧ i.2.1 ≤ 0 + 20) (fun i => .agg (gtA i.1)) (fun i => [(gs, 167, srcC A bs.length cap i.2.1 i.2.2), (_, 36, cs)]) Try.func65 (by kernel_rfl) rfl rfl rfl rfl rfl rfl (fun w hL => (hdr w gs _ 0 0 _ (SlA.away hS hL m0 (by omega)) (by omega) (by omega) (hL.at_ m0) (hL.at_ m1) (Kn.ne0 hL m0)).mono fun e w' ⟨i, hi, he, hu⟩ => ⟨i, hi, he, Kn.upd (i := 0) hL rfl hu⟩) (fun i hi => ?_); obtain ⟨g1, at1, sd1⟩ := i; simp only at hi ⊢)) | (refine s_k 4 rfl ?_; first | refine s_boxA rfl rfl rfl rfl rfl fun blk => ?_ | refine s_box1 rfl rfl rfl rfl rfl rfl fun blk => ?_) | (refine s_k 6 rfl ?_; refine s_bsl rfl rfl (fun w => slGt1 _ _ _ _ _ _ _ w) rfl rfl rfl fun blk => ?_) | refine s_nil ?_) | (refine c_g ?_; first | refine c_seq ?_ | refine c_region ?_ | (refine c_gc ?_; first | refine c_cond1 rfl zTr ?_ | refine c_cond0 rfl zTr ?_) | refine c_block ?_ | refine c_skip ?_ | refine c_exit ?_ | refine c_ret ?_) | (refine e_g ?_; first | refine e_then ?_ | refine e_blkn ?_ | refine e_thenx ?_ | refine e_thenr ?_ | refine e_blkr ?_ | refine e_blkx ?_ | refine e_blky rfl ?_))
  rename_i b3
  have k2 := hok 4 at1 sd1 hi.2.2.1
  have p2 := fun w gs hS hg => hpk w gs at1 sd1 4 hS hi.2.2.1 (by omega) hg
  rcases hq2 : pk 4 at1 sd1 with ⟨r2, at2, sd2⟩
  simp only [hq2] at k2 p2
  obtain ⟨K, rfl⟩ : ∃ K : Nat, r2 = (K : Int) := ⟨r2.toNat, by omega⟩
  repeat' (first | (refine s_g ?_; first | (refine s_k 0 rfl ?_; refine zsv (r_move rfl rfl) ?_) | (refine s_k 1 rfl ?_; refine zsv (r_assign rfl rfl) ?_) | (refine s_k 13 rfl ?_; first | refine zsv (r_sub rfl rfl rfl zWr) ?_ | refine zsv (r_gtr rfl rfl rfl) ?_) | (refine s_k 35 rfl ?_; (refine s_callM1 Try.func66 (by kernel_rfl) rfl rfl rfl rfl rfl rfl (fun w hL hg => p2 w _ (SlA.away hS hL m1 (by omega)) hg) fun cs5 hcs5 => ?_; subst hcs5)) | (refine s_k 4 rfl ?_; first | refine s_boxA rfl rfl rfl rfl rfl fun blk => ?_ | refine s_box1 rfl rfl rfl rfl rfl rfl fun blk => ?_) | refine s_nil ?_) | (refine c_g ?_; first | refine c_seq ?_ | refine c_region ?_ | (refine c_gc ?_; first | refine c_cond1 rfl zTr ?_ | refine c_cond0 rfl zTr ?_) | refine c_block ?_ | refine c_skip ?_ | refine c_exit ?_ | refine c_ret ?_) | (refine e_g ?_; first | refine e_then ?_ | refine e_blkn ?_ | refine e_thenx ?_ | refine e_thenr ?_ | refine e_blkr ?_ | refine e_blkx ?_ | refine e_blky rfl ?_))
  have hA1 : Ap 7 1 1 (gtA g1) ([g1].map Gt.cells).flatten := ⟨by simp [Gt.cells], Nat.le_refl _, by unfold maxLen; omega, rfl, rfl⟩
  refine c_loop (ι := Nat × List Gt × Nat × Nat × Array Value × Int × Int) (fun i => i.1) (fun i => i.2.1.length + i.1 ≤ 4 ∧ AgI q i.2.1 ∧ Ap 7 i.2.1.length i.2.2.2.1 i.2.2.2.2.1 (i.2.1.map Gt.cells).flatten ∧ 0 ≤ i.2.2.2.2.2.1 ∧ i.2.2.2.2.2.1 ≤ 30 * i.2.1.length) (fun i => [(7, .int .i64 (i.1 : Int)), (6, .slice (some ⟨i.2.2.1, 0, none⟩) i.2.1.length i.2.2.2.1), (5, .pointer (some ⟨gs, 0, none⟩)), (3, .pointer (some ⟨b3, 0, none⟩))]) (fun i => [(i.2.2.1, 68, i.2.2.2.2.1), (gs, 167, srcC A bs.length cap i.2.2.2.2.2.1 i.2.2.2.2.2.2), (b3, 36, cs)]) (K, [g1], blk, 1, gtA g1, at2, sd2) ⟨by simp; omega, ⟨by simp, by simp, fun g hg => by simp at hg; subst hg; exact ⟨hi.1, hi.2.1⟩⟩, hA1, by simp only; omega, by simp; omega⟩ ?hs rfl ?_
  case hs => (repeat' (first | exact sub_nil | refine sub_cons rfl ?_))
  clear hi k2 p2 hq2 hA1
  rintro ⟨rem, L, g, cpg, cug, at3, sd3⟩ ⟨hlen, hI, hA, hl0, hh0⟩
  simp only at hlen hI hA hl0 hh0 ⊢
  by_cases hr0 : 0 < rem
  · obtain ⟨m, rfl⟩ : ∃ m, rem = m + 1 := ⟨rem - 1, by omega⟩
    have hwm : IntKind.i64.wrap (((m + 1 : Nat) : Int) - 1) = (m : Int) := by rw [show ((m + 1 : Nat) : Int) - 1 = (m : Int) by omega]; exact wrap_in (by simp only [Wk.lo, Wk.hi]; omega)
    repeat' (first | (refine s_g ?_; first | (refine s_k 0 rfl ?_; refine zsv (r_move rfl rfl) ?_) | (refine s_k 1 rfl ?_; refine zsv (r_assign rfl rfl) ?_) | (refine s_k 13 rfl ?_; first | refine zsv (r_sub rfl rfl rfl hwm) ?_ | refine zsv (r_sub rfl rfl rfl zWr) ?_ | refine zsv (r_gtr rfl rfl rfl) ?_) | (refine s_k 35 rfl ?_; (refine s_callR (ι := Gt × Int × Int) (fun i => goatOk q i.1 = true ∧ i.1.ok ∧ 0 ≤ i.2.1 ∧ i.2.1 ≤ at3 + 20) (fun i => .agg (gtA i.1)) (fun i => [(g, 68, cug), (gs, 167, srcC A bs.length cap i.2.1 i.2.2), (b3, 36, cs)]) Try.func65 (by kernel_rfl) rfl rfl rfl rfl rfl rfl (fun w hL => (hdr w gs b3 at3 sd3 _ (SlA.away hS hL m1 (by omega)) hl0 (by omega) (hL.at_ m1) (hL.at_ m2) (Kn.ne2 hL (i := 2) (j := 1) rfl rfl (by omega))).mono fun e w' ⟨i, hi, he, hu⟩ => ⟨i, hi, he, Kn.upd (i := 1) hL rfl hu⟩) (fun i hi => ?_); obtain ⟨g5, at5, sd5⟩ := i; simp only at hi ⊢)) | (refine s_k 4 rfl ?_; first | refine s_boxA rfl rfl rfl rfl rfl fun blk => ?_ | refine s_box1 rfl rfl rfl rfl rfl rfl fun blk => ?_) | (refine s_k 36 rfl ?_; refine s_app0 (c2 := g5.cells) hA rfl rfl rfl uSlGt iGt rfl (by omega) (by simp) (by simp) rfl (by simp [Gt.cells, Value.oneCell']) (by unfold maxLen; omega) (by omega) rfl rfl rfl fun g' cap' cur' hA' => ?_) | (refine s_k 6 rfl ?_; refine s_bsl rfl rfl (fun w => slGt1 _ _ _ _ _ _ _ w) rfl rfl rfl fun blk => ?_) | refine s_nil ?_) | (refine c_g ?_; first | refine c_seq ?_ | refine c_region ?_ | (refine c_gc ?_; first | refine c_cond1 rfl zTr ?_ | refine c_cond0 rfl zTr ?_) | refine c_block ?_ | refine c_skip ?_ | refine c_exit ?_ | refine c_ret ?_) | (refine e_g ?_; first | refine e_then ?_ | refine e_blkn ?_ | refine e_thenx ?_ | refine e_thenr ?_ | refine e_blkr ?_ | refine e_blkx ?_ | refine e_blky rfl ?_) | (refine e_round (m, L ++ [g5], g', cap', cur', at5, sd5) (by simp) ⟨by simp; omega, ⟨by simp, by simp; omega, fun d hd => ?_⟩, by simpa using hA', by simp only; omega, by simp; omega⟩ ?hs rfl))
    all_goals first
      | (case hs => simp only [List.length_append, List.length_cons, List.length_nil]; (repeat' (first | exact sub_nil | refine sub_cons rfl ?_)); done)
      | (rcases List.mem_append.1 hd with hd | hd
         · exact hI.ok d hd
         · simp at hd; subst hd; exact ⟨hi.1, hi.2.1⟩)
  · repeat' (first | (refine s_g ?_; first | (refine s_k 0 rfl ?_; refine zsv (r_move rfl rfl) ?_) | (refine s_k 1 rfl ?_; refine zsv (r_assign rfl rfl) ?_) | (refine s_k 13 rfl ?_; first | refine zsv (r_sub rfl rfl rfl zWr) ?_ | refine zsv (r_gtr rfl rfl rfl) ?_) | (refine s_k 4 rfl ?_; first | refine s_boxA rfl rfl rfl rfl rfl fun blk => ?_ | refine s_box1 rfl rfl rfl rfl rfl rfl fun blk => ?_) | refine s_nil ?_) | (refine c_g ?_; first | refine c_seq ?_ | refine c_region ?_ | (refine c_gc ?_; first | refine c_cond1 rfl zTr ?_ | refine c_cond0 rfl zTr ?_) | refine c_block ?_ | refine c_skip ?_ | refine c_exit ?_ | refine c_ret ?_) | (refine e_g ?_; first | refine e_then ?_ | refine e_blkn ?_ | refine e_thenx ?_ | refine e_thenr ?_ | refine e_blkr ?_ | refine e_blkx ?_ | refine e_blky rfl ?_) | (refine e_ret1 (by simp) rfl (re_tmp rfl) fun w hL => ⟨L, hI, NewS.of hA hL m0⟩))
end Go.Proofs.Ytnfdefeafhepkaa
namespace Go.Proofs.Ytnfdefeafhepkaa
open Go.RowKit Mem Wk
attribute [local irreducible] bfsN bfs
def conn (p : Nat → Int) (a b : Sp) : Prop := Way (nbP p) (· = a) b
def cel (p : Nat → Int) (c : Sp) : Prop := isC (p 0) (p 1) c.x c.y = true
theorem conn_refl (p : Nat → Int) (a : Sp) : conn p a a := Way.start rfl
theorem conn_trans {p : Nat → Int} {a b c : Sp} (h1 : conn p a b) (h2 : conn p b c) : conn p a c := by
  induction h2 with
  | start h => rw [h]; exact h1
  | step _ h ih => exact Way.step ih h
theorem way_ex {p : Nat → Int} {l : List Sp} {c : Sp} : Way (nbP p) (· ∈ l) c ↔ ∃ a ∈ l, conn p a c := by
  constructor
  · intro h
    induction h with
    | start h => exact ⟨_, h, conn_refl p _⟩
    | step _ h ih => obtain ⟨a, h1, h2⟩ := ih; exact ⟨a, h1, Way.step h2 h⟩
  · rintro ⟨a, h1, h2⟩
    induction h2 with
    | start h => rw [h]; exact Way.start h1
    | step _ h ih => exact Way.step ih h
theorem steps_ex {p : Nat → Int} {l : List Sp} (hl : ∀ c ∈ l, inR c) {c : Sp} (hc : inR c) : (stepsP p l).1 (ci c) ≠ 0 ↔ ∃ a ∈ l, conn p a c := by
  rw [← way_ex]
  unfold stepsP
  exact bfs_ne (bi0 hl) (nbP_ok p) hc
theorem str_conn {p : Nat → Int} {a c : Sp} (ha : inR a) (hc : inR c) : 0 < strD p a (ci c) ↔ conn p a c := by
  have h := steps_ex (p := p) (l := [a]) (fun c h => by rw [List.mem_singleton] at h; subst h; exact ha) hc
  have hv := strD_val p ha (ci c)
  unfold strD at hv ⊢
  generalize (stepsP p [a]).1 (ci c) = n at *
  constructor
  · intro h0
    obtain ⟨b, hb, hcn⟩ := h.1 (by omega)
    rw [List.mem_singleton] at hb; subst hb; exact hcn
  · intro hcn
    have := h.2 ⟨a, List.mem_singleton.2 rfl, hcn⟩
    omega
theorem yard_mem {p : Nat → Int} {a c : Sp} (ha10 : p 0 ≤ 10) (hb10 : p 1 ≤ 10) (ha : cel p a) : c ∈ yardL p a ↔ cel p c ∧ conn p a c := by
  have hra : inR a := isC_range ha
  obtain ⟨hW, hH, _, _⟩ := dims ha10 hb10 ha
  constructor
  · intro h
    have h1 := pasL_isC ha10 hb10 h
    refine ⟨h1.1, (str_conn hra (isC_range h1.1)).1 ?_⟩
    have := h1.2
    unfold yardF at this
    simp at this
    omega
  · rintro ⟨h1, h2⟩
    have hrc : inR c := isC_range h1
    have h3 := (str_conn (p := p) hra hrc).2 h2
    unfold cel isC inB at h1
    simp at h1
    unfold yardL pasL
    refine cellL_in ?_ (by omega) (by omega)
    unfold yardF
    simp
    omega
theorem cellN_cel {p : Nat → Int} (hW : p 0 = ((p 0).toNat : Int)) (hH : p 1 = ((p 1).toNat : Int)) (hW10 : (p 0).toNat ≤ 10) (hH10 : (p 1).toNat ≤ 10) {k : Nat} (hk : k < (p 1).toNat * (p 0).toNat) : cel p (cellN (p 0).toNat k) := by
  have hm := cellL_mem (f := fun _ => true) (W := (p 0).toNat) (H := (p 1).toNat) (c := cellN (p 0).toNat k) (by unfold cellL; exact List.mem_filter.2 ⟨List.mem_map.2 ⟨k, List.mem_range.2 hk, rfl⟩, rfl⟩)
  unfold cel isC inB
  simp
  omega
end Go.Proofs.Ytnfdefeafhepkaa
