import Derived.Test.YtdnndidihedndaaRRQw24
import Derived.Test.YtdnndidihedndaaRRQw25
/- WeakSides: both functions. No condition. -/
namespace Go.Proofs.YtdnndidihedndaaRR
set_option linter.unusedVariables false
set_option linter.unusedSimpArgs false
open Go.RowKit Mem Wk
theorem Wk.r_slLH {P : Program} {n : Nat} {O : List Nat} {w0 : World} {ll : List (Nat × Value)} {L : List (Nat × TypeId × Array Value)} {o : Oper} {x y z : Operand} (tb : Tb P) {t el sz : Nat} {g off len cap i h : Nat} {kd kd' : IntKind} (ho : o.op = .slice t x (some y) (some z) none) (hx : ev ll x = some (.slice (some ⟨g, off, none⟩) len cap)) (hy : ev ll y = some (.int kd (i : Int))) (hz : ev ll z = some (.int kd' (h : Int))) (ht : lkT tb.l t = some (el, sz)) (h1 : i ≤ h) (h2 : h ≤ cap) (hlt : i < cap) : Rn P n O w0 ll L o (.slice (some ⟨g, off + i * sz, none⟩) (h - i) (cap - i)) := fun a w hF hL => by
  have hu := (tb.slice ht).1
  have he : P.underlying t = some (.slice (P.elem t)) := by rw [hu]; simp [Program.elem, hu]
  have hel : P.elem t = el := by simp [Program.elem, hu]
  have hs := run_size (tb.slice ht).2 w
  simp only [execOp, ho, Option.map_none, Option.map_some, hF.eval hx, hF.eval hy, hF.eval hz, Sem.run_bind, run_sliceAt_slice w t _ _ _ _ he, run_slice_lh w t (some ⟨g, off, none⟩) len cap he kd kd' (i : Int) (h : Int) (by omega) (by omega) (by omega), hel, hs, Result.andThen_ok, Int.toNat_natCast, sliced_l hlt, Sem.run_pure]
theorem SlA.sub1 {O : List Nat} {w : World} {sz b off k : Nat} {xs : List (List Value)} {c : List Value} (h : SlA O w sz (some ⟨b, off, none⟩) xs) (hk : xs[k]? = some c) : SlA O w sz (some ⟨b, off + k * sz, none⟩) [c] := fun i d hd => by
  cases i with
  | zero =>
    simp at hd; subst hd
    obtain ⟨h1, b', off', e, hO, hu⟩ := h k c hk
    simp at e; obtain ⟨rfl, rfl⟩ := e
    exact ⟨h1, _, _, rfl, hO, fun j u hj => by have := hu j u hj; simpa using this⟩
  | succ i => simp at hd
attribute [local irreducible] Calls Wk.S Wk.C Wk.E Wk.X Wk.T Wk.Y Wk.anV Wk.orV Wk.andV Wk.shlV Wk.shrV Calm.wpLex CalmB.wpLex bfsN putP
def weakB (p : Nat → Int) (h : Hd) : Bool := !stP p h && apartB (foldP p [h] true) h
def weakL (p : Nat → Int) : List Hd := (allSd p).filter (weakB p)
theorem weakL_eq (p : Nat → Int) : weakL p = sdL (fun h => isH p h && weakB p h) (p 0).toNat ((p 1).toNat * (p 0).toNat) := sdL_filter _ _ _ _
theorem weakL_len {p : Nat → Int} (h : validP p = true) : (weakL p).length ≤ 200 := Nat.le_trans (List.length_filter_le _ _) (allSd_len h)
theorem one_slH (h : Hd) {w : World} {b : Nat} {T : TypeId} (hb : w.heap[b]? = some (.cells #[.int .i8 h.x, .int .i8 h.y, .bool h.s] T (0, 0))) : SlA [] w 3 (some ⟨b, 0, none⟩) ([h].map Hd.cells) := by
  have hA : Ap 3 1 1 #[.int .i8 h.x, .int .i8 h.y, .bool h.s] (([h].map Hd.cells).flatten) := ⟨rfl, Nat.le_refl _, by unfold maxLen; simp, rfl, rfl⟩
  exact hA.slA (lenHd [h]) hb
theorem foldP_keep (on : Bool) : ∀ (l : List Hd) (p : Nat → Int) {i : Nat}, i < 102 → foldP p l on i = p i
  | [], _, _, _ => rfl
  | a :: l, p, i, hi => (foldP_keep on l (putP p a.x a.y a.s on) hi).trans (putP_keep _ _ _ _ _ hi)
theorem inP_one {p : Nat → Int} {h : Hd} (hh : isH p h = true) : InP [h] := fun a ha => by
  simp at ha; subst ha
  obtain ⟨hr, _⟩ := isH_facts hh
  exact ⟨⟨hr.1, hr.2.1⟩, hr.2.2⟩
set_option maxRecDepth 100000 in
set_option maxHeartbeats 800000 in
theorem weakClo_any (p : Nat → Int) (cs : Array Value) (T : TypeId) (g : Nat) (h : Hd) (w : World) (hp : Pv p cs) (hg : w.heap[g]? = some (.cells cs T (0, 0))) (hh : isH p h = true) :
    Calls Try.prog 152 #[.agg #[.int .i8 h.x, .int .i8 h.y, .bool h.s], .pointer (some ⟨g, 0, none⟩)] w fun e w' => e = .returned (.bool (weakB p h)) ∧ Below w.heap.size w w' := by
  have hsz := hp.size
  obtain ⟨hr, hro⟩ := isH_facts hh
  obtain ⟨c', hc'⟩ := foldP_ex (on := true) hp (inP_one hh)
  have hst := fun w => stands_any p cs h.x h.y h.s w hp ⟨hr.1, hr.2.1⟩ hr.2.2
  have hwith := fun w b hS => with_any p cs c' [h] true (some ⟨b, 0, none⟩) 1 w hp hS (by unfold maxLen; simp) (inP_one hh) hc'
  generalize hq : foldP p [h] true = q at *
  have hD := strD_val q (o := ⟨h.x, h.y⟩) hr
  have hT := giA_ok .i16 1 (strD q ⟨h.x, h.y⟩)
  have hone : ∀ c ∈ [(⟨h.x, h.y⟩ : Sp)], inR c := fun c hcm => by simp at hcm; subst hcm; exact hr
  have hl1 : [(⟨h.x, h.y⟩ : Sp)].length ≤ 1048576 := by simp
  have hDo := hD (ci (othS h))
  have hoth := fun w => other_any h.x h.y h.s w (by have := hr; unfold inR at this; simp only at this; omega) (by have := hr; unfold inR at this; simp only at this; omega)
  have hfar := fun w b hS => far_any q c' [⟨h.x, h.y⟩] b 0 1 w hc' hone hl1 hS
  have hat := fun w g T hg => farAtS (T := T) (g := g) (othS h) (w := w) hT hD hg hro
  have hb : weakB p h = (!stP p h && decide (strD q ⟨h.x, h.y⟩ (ci (othS h)) - 1 < 0)) := by
    unfold weakB apartB; rw [hq]; congr 1; exact decide_eq_decide.2 (by omega)
  rw [hb]
  change ∀ w, Calls _ _ _ w (fun e w' => e = .returned (.bool (stP p h)) ∧ Below w.heap.size w w') at hst
  generalize stP p h = sv at *
  cases sv
  all_goals
    refine enter2 Try.func152 rfl rfl rfl (Own.start w) ?_
    repeat' (first
      | (refine s_g ?_; first
      | (refine s_gd rfl ?_; first | refine s_gd1 rfl rfl zTr ?_ | refine s_gd0 rfl rfl rfl zTr ?_ | refine s_gd00 rfl rfl zTr ?_ | refine s_gdu rfl rfl rfl ?_ | refine s_gp1 rfl rfl rfl (fun hc => ?_) (fun hc => ?_) | refine s_gp0 rfl rfl rfl (fun hc => ?_) (fun hc => ?_) | refine s_gnp1 rfl rfl rfl (fun hc => ?_) (fun hc => ?_) | refine s_gnp0 rfl rfl rfl (fun hc => ?_) (fun hc => ?_) | refine s_gb1 rfl rfl rfl (fun hc => ?_) (fun hc => ?_) | refine s_gb0 rfl rfl rfl (fun hc => ?_) (fun hc => ?_) | refine s_gnb1 rfl rfl rfl (fun hc => ?_) (fun hc => ?_) | refine s_gnb0 rfl rfl rfl (fun hc => ?_) (fun hc => ?_))
      | (refine s_k 0 rfl ?_; refine s_val rfl rfl rfl (r_move rfl rfl) ?_)
      | (refine s_k 23 rfl ?_; first | refine s_val rfl rfl rfl (r_field tb rfl rfl rfl) ?_ | refine s_val rfl rfl rfl (r_fieldS tb rfl rfl rfl) ?_)
      | (refine s_k 8 rfl ?_; first | refine s_val rfl rfl rfl (r_ldo rfl rfl hg (by simp) (ldvW tb rfl hsz)) ?_ | (refine' s_val rfl rfl rfl (r_ldv rfl rfl ?qm ?qv) ?_; (case qm => (exact zMm)); (case qv => (first | exact ldvL tb rfl rfl | exact ldv1 tb rfl (by assumption) | exact ldvW tb rfl rfl | exact ldvW tb rfl (by assumption) | exact ldvW tb rfl (Pv.size (by assumption)) | exact ldvN tb rfl ext2_0 rfl | exact ldvN tb rfl ext2_2 rfl))) | (refine' s_val rfl rfl rfl (r_ldo rfl rfl ?qw (by simp) ?qv) ?_; (case qw => assumption); (case qv => (first | exact ldvL tb rfl rfl | exact ldv1 tb rfl (by assumption) | exact ldvW tb rfl rfl | exact ldvW tb rfl (by assumption) | exact ldvW tb rfl (Pv.size (by assumption)) | exact ldvN tb rfl ext2_0 rfl | exact ldvN tb rfl ext2_2 rfl))))
      | (refine s_k 1 rfl ?_; refine s_val rfl rfl rfl (r_assign rfl rfl) ?_)
      | (refine s_k 13 rfl ?_; refine s_val rfl rfl rfl (r_lss rfl rfl rfl) ?_)
      | (refine s_k 35 rfl ?_; first | (refine s_call Try.func154 (by kernel_rfl) rfl rfl rfl rfl rfl rfl (fun w hL => hst w) ?_) | (refine s_call Try.func146 (by kernel_rfl) rfl rfl rfl rfl rfl rfl (fun w hL => hoth w) ?_) | (refine s_call Try.func145 (by kernel_rfl) rfl rfl rfl rfl rfl rfl (fun w hL => hat w _ _ (hL.at_ m0)) ?_))
      | (refine s_k 14 rfl ?_; refine s_val rfl rfl rfl (r_not rfl rfl) ?_)
      | (refine s_k 2 rfl ?_; first | refine s_val rfl rfl rfl (r_pick1 rfl rfl zTr rfl) ?_ | refine s_val rfl rfl rfl (r_pick0 rfl rfl zTr rfl) ?_)
      | (refine s_k 4 rfl ?_; first | refine s_boxA rfl rfl rfl rfl rfl fun blk => ?_ | refine s_box1 rfl rfl rfl rfl rfl rfl fun blk => ?_)
      | (refine s_k 9 rfl ?_; (first | refine s_st1 tb rfl rfl rfl rfl rfl rfl rfl rfl ?_ | refine s_stA tb rfl rfl rfl rfl (by first | rfl | assumption | (apply Pv.size; assumption)) rfl rfl ?_); (first | refine' st0 ?qs ?_ | refine' st1 ?qs ?_ | refine' st2 ?qs ?_ | refine' st3 ?qs ?_ | refine' st4 ?qs ?_ | refine' st5 ?qs ?_ | refine' st6 ?qs ?_ | refine' st7 ?qs ?_ | refine' st8 ?qs ?_ | refine' st9 ?qs ?_ | refine' st10 ?qs ?_ | refine' st11 ?qs ?_); (case qs => (first | exact setG (giA_ok _ _ _) zSt_ok.size | exact zSet)))
      | (refine s_k 6 rfl ?_; first | refine s_bsl rfl rfl (fun w => slSpot1 _ _ w) rfl rfl rfl fun blk => ?_ | refine s_bsl rfl rfl (fun w => slHurdle1 _ _ _ w) rfl rfl rfl fun blk => ?_)
      | refine s_nil ?_)
      | (refine c_g ?_; first | refine c_seq ?_ | refine c_region ?_ | (refine c_gc ?_; first | refine c_cond1 rfl zTr ?_ | refine c_cond0 rfl zTr ?_ | refine z_condd1 rfl ?_ | refine z_condd0 rfl ?_ | refine z_conddn1 rfl ?_ | refine z_conddn0 rfl ?_ | refine c_condd rfl (fun hc => ?_) (fun hc => ?_) | refine c_conddn rfl (fun hc => ?_) (fun hc => ?_) | refine c_condn rfl (fun hc => ?_) (fun hc => ?_) | refine c_cond rfl (fun hc => ?_) (fun hc => ?_)) | refine c_block ?_ | refine c_skip ?_ | refine c_exit ?_ | refine c_ret ?_)
      | (refine e_g ?_; first | refine e_then ?_ | refine e_blkn ?_ | refine e_thenx ?_ | refine e_thenr ?_ | refine e_blkr ?_ | refine e_blkx ?_ | refine e_blky rfl ?_)
      | (refine y_g ?_; first
      | (refine y_gd rfl ?_; first | refine y_gd1 rfl rfl zTr ?_ | (refine y_gd0 rfl rfl rfl zTr ?hp ?_; (case hp => exact rfl)))
      | (refine y_k 23 rfl ?_; first | (refine y_val rfl rfl rfl (r_field tb rfl rfl rfl) ?hp ?_; (case hp => exact rfl)) | (refine y_val rfl rfl rfl (r_fieldS tb rfl rfl rfl) ?hp ?_; (case hp => exact rfl)))
      | (refine y_k 8 rfl ?_; first | (refine y_val rfl rfl rfl (r_ldo rfl rfl hg (by simp) (ldvW tb rfl hsz)) ?hp ?_; (case hp => exact rfl)) | (refine' y_val rfl rfl rfl (r_ldv rfl rfl ?qm ?qv) ?hp ?_; (case qm => (exact zMm)); (case qv => (first | exact ldvL tb rfl rfl | exact ldv1 tb rfl (by assumption) | exact ldvW tb rfl rfl | exact ldvW tb rfl (by assumption) | exact ldvW tb rfl (Pv.size (by assumption)) | exact ldvN tb rfl ext2_0 rfl | exact ldvN tb rfl ext2_2 rfl)); (case hp => exact rfl)) | (refine' y_val rfl rfl rfl (r_ldo rfl rfl ?qw (by simp) ?qv) ?hp ?_; (case qw => assumption); (case qv => (first | exact ldvL tb rfl rfl | exact ldv1 tb rfl (by assumption) | exact ldvW tb rfl rfl | exact ldvW tb rfl (by assumption) | exact ldvW tb rfl (Pv.size (by assumption)) | exact ldvN tb rfl ext2_0 rfl | exact ldvN tb rfl ext2_2 rfl)); (case hp => exact rfl)))
      | (refine y_k 13 rfl ?_; (refine y_val rfl rfl rfl (r_lss rfl rfl rfl) ?hp ?_; (case hp => exact rfl)))
      | (refine y_k 35 rfl ?_; first | (refine y_call Try.func154 (by kernel_rfl) rfl rfl rfl rfl rfl rfl (fun w hL => hst w) ?hp ?_; (case hp => exact rfl)) | (refine y_call Try.func146 (by kernel_rfl) rfl rfl rfl rfl rfl rfl (fun w hL => hoth w) ?hp ?_; (case hp => exact rfl)) | (refine y_call Try.func145 (by kernel_rfl) rfl rfl rfl rfl rfl rfl (fun w hL => hat w _ _ (hL.at_ m0)) ?hp ?_; (case hp => exact rfl)) | (refine' y_rd Try.func153 (by kernel_rfl) rfl rfl rfl rfl rfl rfl List.mem_cons_self (List.mem_cons_of_mem _ List.mem_cons_self) rfl (fun w hL => hwith w _ (one_slH h (hL.at_ m0))) ?hp ?_; (case hp => exact rfl)) | (refine' y_rd Try.func144 (by kernel_rfl) rfl rfl rfl rfl rfl rfl List.mem_cons_self (List.mem_cons_of_mem _ List.mem_cons_self) rfl (fun w hL => hfar w _ (one_slA ⟨h.x, h.y⟩ (hL.at_ m0))) ?hp ?_; (case hp => exact rfl)))
      | (refine y_k 14 rfl ?_; (refine y_val rfl rfl rfl (r_not rfl rfl) ?hp ?_; (case hp => exact rfl)))
      | (refine y_k 2 rfl ?_; first | (refine y_val rfl rfl rfl (r_pick1 rfl rfl zTr rfl) ?hp ?_; (case hp => exact rfl)) | (refine y_val rfl rfl rfl (r_pick0 rfl rfl zTr rfl) ?hp ?_; (case hp => exact rfl)))
      | refine y_nil0 ?_
      | refine y_nil ?_
      | (refine' y_k 0 rfl ?_; (refine' y_move rfl rfl rfl rfl rfl ?hp ?_; (case hp => exact rfl)))
      | (refine' y_k 1 rfl ?_; (refine' y_assign rfl rfl rfl rfl rfl ?hp ?_; (case hp => exact rfl)))
      | (refine' y_k 6 rfl ?_; (refine' y_bsl rfl rfl (fun w => slSpot1 _ _ w) rfl rfl rfl ?hp (fun blk => ?_); (case hp => exact rfl)))
      | (refine' y_k 6 rfl ?_; (refine' y_bsl rfl rfl (fun w => slHurdle1 _ _ _ w) rfl rfl rfl ?hp (fun blk => ?_); (case hp => exact rfl)))
      | (refine' y_k 3 rfl ?_; (refine' y_allocA (T := 176) rfl zStepsV rfl rfl rfl ?hp (fun blk => ?_); (case hp => exact rfl))))
      | (refine' c_drawYT (id := 1) 9 [(Sum.inl _ : CalmB.Plan), (Sum.inl _ : CalmB.Plan), (Sum.inr _ : CalmB.Plan), (Sum.inl _ : CalmB.Plan), (Sum.inl _ : CalmB.Plan), (Sum.inl _ : CalmB.Plan), (Sum.inr _ : CalmB.Plan), (Sum.inl _ : CalmB.Plan), (Sum.inr _ : CalmB.Plan)] (by kernel_rfl) (by kernel_rfl) ?_)
      | refine e_tail ?_
      | (refine e_ret1 (by simp) rfl (re_tmp rfl) fun w hL => ⟨by simp, hL.toBelow⟩))
set_option maxRecDepth 100000 in
set_option maxHeartbeats 800000 in
theorem implWeak_ok (p : Nat → Int) (cs : Array Value) (w : World) (hp : Pv p cs) (hv : validP p = true) :
    Calls Try.prog 53 #[.agg cs] w (NewS2 70 3 (flH (weakL p)) 0 w) := by
  have hsz := hp.size
  obtain ⟨hW, hH, hW10, hH10⟩ := validP_dims hv
  have hva := fun w => implValidPasture_any p cs w hp
  rw [weakL_eq]
  refine enter1 Try.func53 rfl rfl rfl (Own.start w) ?_
  repeat' (first
    | (refine s_g ?_; first
      | (refine s_k 8 rfl ?_; first | (refine' s_val rfl rfl rfl (r_ldv rfl rfl ?qm ?qv) ?_; (case qm => (exact zMm)); (case qv => (first | exact ldvL tb rfl rfl | exact ldv1 tb rfl (by assumption) | exact ldvW tb rfl rfl | exact ldvW tb rfl (by assumption) | exact ldvW tb rfl (Pv.size (by assumption)) | exact ldvN tb rfl ext2_0 rfl | exact ldvN tb rfl ext2_2 rfl))) | (refine' s_val rfl rfl rfl (r_ldo rfl rfl ?qw (by simp) ?qv) ?_; (case qw => assumption); (case qv => (first | exact ldvL tb rfl rfl | exact ldv1 tb rfl (by assumption) | exact ldvW tb rfl rfl | exact ldvW tb rfl (by assumption) | exact ldvW tb rfl (Pv.size (by assumption)) | exact ldvN tb rfl ext2_0 rfl | exact ldvN tb rfl ext2_2 rfl))))
      | (refine s_k 1 rfl ?_; refine s_val rfl rfl rfl (r_assign rfl rfl) ?_)
      | (refine s_k 35 rfl ?_; first | (refine s_call Try.func142 (by kernel_rfl) rfl rfl rfl rfl rfl rfl (fun w hL => (by have q := hva w; rw [hv] at q; exact q)) ?_) | (refine s_callN Try.func151 (by kernel_rfl) rfl rfl rfl rfl rfl rfl (fun w hL => sides_any p cs (p 0).toNat (p 1).toNat 152 _ [] [_] (weakB p) w hp hW hH hW10 hH10 Try.func152 (by kernel_rfl) rfl (fun h hh w' hb => weakClo_any p cs _ _ h w' hp (block_below0 (hL.at_ m0) hb) hh)) fun g k cap cur hA => ?_))
      | (refine s_k 14 rfl ?_; refine s_val rfl rfl rfl (r_not rfl rfl) ?_)
      | (refine s_k 4 rfl ?_; first | refine s_boxA rfl rfl rfl rfl rfl fun blk => ?_ | refine s_box1 rfl rfl rfl rfl rfl rfl fun blk => ?_)
      | (refine s_k 18 rfl ?_; refine s_val rfl rfl rfl (r_func rfl rfl rfl) ?_)
      | refine s_nil ?_)
    | (refine c_g ?_; first | refine c_seq ?_ | refine c_region ?_ | (refine c_gc ?_; first | refine c_cond1 rfl zTr ?_ | refine c_cond0 rfl zTr ?_ | refine z_condd1 rfl ?_ | refine z_condd0 rfl ?_ | refine z_conddn1 rfl ?_ | refine z_conddn0 rfl ?_ | refine c_condd rfl (fun hc => ?_) (fun hc => ?_) | refine c_conddn rfl (fun hc => ?_) (fun hc => ?_) | refine c_condn rfl (fun hc => ?_) (fun hc => ?_) | refine c_cond rfl (fun hc => ?_) (fun hc => ?_)) | refine c_block ?_ | refine c_skip ?_ | refine c_exit ?_ | refine c_ret ?_)
    | (refine e_g ?_; first | refine e_then ?_ | refine e_blkn ?_ | refine e_thenx ?_ | refine e_thenr ?_ | refine e_blkr ?_ | refine e_blkx ?_ | refine e_blky rfl ?_)
    | (refine e_ret2 (by simp) rfl (re_tmp rfl) (re_tmp rfl) fun w hL => by
        obtain rfl : k = (sdL (fun h => isH p h && weakB p h) (p 0).toNat ((p 1).toNat * (p 0).toNat)).length := by simpa using hA.count (lenHd _) (by omega)
        exact NewS2.of hA hL m0))
set_option maxRecDepth 100000 in
theorem implWeak_no (p : Nat → Int) (cs : Array Value) (w : World) (hp : Pv p cs) (hv : validP p = false) :
    Calls Try.prog 53 #[.agg cs] w fun e w' => e = .returned (.tuple #[.slice none 0 0, .int .i64 1]) ∧ Below w.heap.size w w' := by
  have hsz := hp.size
  have hva := fun w => implValidPasture_any p cs w hp
  refine enter1 Try.func53 rfl rfl rfl (Own.start w) ?_
  repeat' (first
    | (refine s_g ?_; first
      | (refine s_k 8 rfl ?_; first | (refine' s_val rfl rfl rfl (r_ldv rfl rfl ?qm ?qv) ?_; (case qm => (exact zMm)); (case qv => (first | exact ldvL tb rfl rfl | exact ldv1 tb rfl (by assumption) | exact ldvW tb rfl rfl | exact ldvW tb rfl (by assumption) | exact ldvW tb rfl (Pv.size (by assumption)) | exact ldvN tb rfl ext2_0 rfl | exact ldvN tb rfl ext2_2 rfl))) | (refine' s_val rfl rfl rfl (r_ldo rfl rfl ?qw (by simp) ?qv) ?_; (case qw => assumption); (case qv => (first | exact ldvL tb rfl rfl | exact ldv1 tb rfl (by assumption) | exact ldvW tb rfl rfl | exact ldvW tb rfl (by assumption) | exact ldvW tb rfl (Pv.size (by assumption)) | exact ldvN tb rfl ext2_0 rfl | exact ldvN tb rfl ext2_2 rfl))))
      | (refine s_k 1 rfl ?_; refine s_val rfl rfl rfl (r_assign rfl rfl) ?_)
      | (refine s_k 35 rfl ?_; (refine s_call Try.func142 (by kernel_rfl) rfl rfl rfl rfl rfl rfl (fun w hL => (by have q := hva w; rw [hv] at q; exact q)) ?_))
      | (refine s_k 14 rfl ?_; refine s_val rfl rfl rfl (r_not rfl rfl) ?_)
      | (refine s_k 4 rfl ?_; first | refine s_boxA rfl rfl rfl rfl rfl fun blk => ?_ | refine s_box1 rfl rfl rfl rfl rfl rfl fun blk => ?_)
      | (refine s_k 18 rfl ?_; refine s_val rfl rfl rfl (r_func rfl rfl rfl) ?_)
      | refine s_nil ?_)
    | (refine c_g ?_; first | refine c_seq ?_ | refine c_region ?_ | (refine c_gc ?_; first | refine c_cond1 rfl zTr ?_ | refine c_cond0 rfl zTr ?_ | refine z_condd1 rfl ?_ | refine z_condd0 rfl ?_ | refine z_conddn1 rfl ?_ | refine z_conddn0 rfl ?_ | refine c_condd rfl (fun hc => ?_) (fun hc => ?_) | refine c_conddn rfl (fun hc => ?_) (fun hc => ?_) | refine c_condn rfl (fun hc => ?_) (fun hc => ?_) | refine c_cond rfl (fun hc => ?_) (fun hc => ?_)) | refine c_block ?_ | refine c_skip ?_ | refine c_exit ?_ | refine c_ret ?_)
    | (refine e_g ?_; first | refine e_then ?_ | refine e_blkn ?_ | refine e_thenx ?_ | refine e_thenr ?_ | refine e_blkr ?_ | refine e_blkx ?_ | refine e_blky rfl ?_)
    | (refine e_ret2 (by simp) rfl (re_tmp rfl) (re_tmp rfl) fun w hL => ⟨rfl, hL.toBelow⟩))
set_option maxRecDepth 100000 in
theorem specWeak_no (p : Nat → Int) (cs : Array Value) (w : World) (hp : Pv p cs) (hv : validP p = false) :
    Calls Try.prog 52 #[.agg cs] w (NewS2 70 3 [] 1 w) := by
  have hsz := hp.size
  have hva := fun w T g hg => l01Ok_any p cs T g w hp hg
  refine enter1 Try.func52 rfl rfl rfl (Own.start w) ?_
  repeat' (first
    | (refine s_g ?_; first
      | (refine s_k 0 rfl ?_; refine s_val rfl rfl rfl (r_move rfl rfl) ?_)
      | (refine s_k 23 rfl ?_; first | refine s_val rfl rfl rfl (r_field tb rfl rfl rfl) ?_ | refine s_val rfl rfl rfl (r_fieldS tb rfl rfl rfl) ?_)
      | (refine s_k 8 rfl ?_; first | (refine' s_val rfl rfl rfl (r_ldv rfl rfl ?qm ?qv) ?_; (case qm => (exact zMm)); (case qv => (first | exact ldvL tb rfl rfl | exact ldv1 tb rfl (by assumption) | exact ldvW tb rfl rfl | exact ldvW tb rfl (by assumption) | exact ldvW tb rfl (Pv.size (by assumption)) | exact ldvN tb rfl ext2_0 rfl | exact ldvN tb rfl ext2_2 rfl))) | (refine' s_val rfl rfl rfl (r_ldo rfl rfl ?qw (by simp) ?qv) ?_; (case qw => assumption); (case qv => (first | exact ldvL tb rfl rfl | exact ldv1 tb rfl (by assumption) | exact ldvW tb rfl rfl | exact ldvW tb rfl (by assumption) | exact ldvW tb rfl (Pv.size (by assumption)) | exact ldvN tb rfl ext2_0 rfl | exact ldvN tb rfl ext2_2 rfl))))
      | (refine s_k 1 rfl ?_; refine s_val rfl rfl rfl (r_assign rfl rfl) ?_)
      | (refine s_k 13 rfl ?_; first | refine s_val rfl rfl rfl (r_lss rfl rfl rfl) ?_ | refine s_val rfl rfl rfl (r_eql rfl rfl rfl) ?_ | refine s_val rfl rfl rfl (r_add rfl rfl rfl (wrap_in (by simp only [lo, hi]; omega))) ?_)
      | (refine s_k 35 rfl ?_; (refine s_call Try.func137 (by kernel_rfl) rfl rfl rfl rfl rfl rfl (fun w hL => (by have q := hva w _ _ (hL.at_ m0); rw [hv] at q; exact q)) ?_))
      | (refine s_k 14 rfl ?_; refine s_val rfl rfl rfl (r_not rfl rfl) ?_)
      | (refine s_k 25 rfl ?_; first | refine s_val rfl rfl rfl (r_ixN tb rfl rfl rfl rfl (by omega)) ?_ | refine s_val rfl rfl rfl (r_ixA tb rfl rfl rfl rfl (by omega) (by omega)) ?_ | refine s_val rfl rfl rfl (r_ixO tb rfl rfl rfl rfl (by omega)) ?_)
      | (refine s_k 4 rfl ?_; first | refine s_boxA rfl rfl rfl rfl rfl fun blk => ?_ | refine s_box1 rfl rfl rfl rfl rfl rfl fun blk => ?_)
      | (refine s_k 9 rfl ?_; (first | refine s_st1 tb rfl rfl rfl rfl rfl rfl rfl rfl ?_ | refine s_stA tb rfl rfl rfl rfl (by first | rfl | assumption | (apply Pv.size; assumption)) rfl rfl ?_); (first | refine' st0 ?qs ?_ | refine' st1 ?qs ?_ | refine' st2 ?qs ?_ | refine' st3 ?qs ?_ | refine' st4 ?qs ?_ | refine' st5 ?qs ?_ | refine' st6 ?qs ?_ | refine' st7 ?qs ?_ | refine' st8 ?qs ?_ | refine' st9 ?qs ?_ | refine' st10 ?qs ?_ | refine' st11 ?qs ?_); (case qs => (first | exact zSet)))
      | (refine s_k 36 rfl ?_; refine s_val rfl rfl rfl (r_len tb rfl rfl rfl) ?_)
      | (refine s_k 6 rfl ?_; refine s_bsl rfl rfl (fun w => slHurdle0 w) rfl rfl rfl fun blk => ?_)
      | refine s_nil ?_)
    | (refine c_g ?_; first | refine c_seq ?_ | refine c_region ?_ | (refine c_gc ?_; first | refine c_cond1 rfl zTr ?_ | refine c_cond0 rfl zTr ?_ | refine z_condd1 rfl ?_ | refine z_condd0 rfl ?_ | refine z_conddn1 rfl ?_ | refine z_conddn0 rfl ?_ | refine c_condd rfl (fun hc => ?_) (fun hc => ?_) | refine c_conddn rfl (fun hc => ?_) (fun hc => ?_) | refine c_condn rfl (fun hc => ?_) (fun hc => ?_) | refine c_cond rfl (fun hc => ?_) (fun hc => ?_)) | refine c_block ?_ | refine c_skip ?_ | refine c_exit ?_ | refine c_ret ?_)
    | (refine e_g ?_; first | refine e_then ?_ | refine e_blkn ?_ | refine e_thenx ?_ | refine e_thenr ?_ | refine e_blkr ?_ | refine e_blkx ?_ | refine e_blky rfl ?_)
    | (refine e_ret2 (by simp) rfl (re_tmp rfl) (re_tmp rfl) fun w hL => NewS2.of (Ap.nil 3) hL m0))
set_option maxRecDepth 100000 in
set_option maxHeartbeats 1600000 in
theorem specWeak_ok (p : Nat → Int) (cs : Array Value) (w : World) (hp : Pv p cs) (hv : validP p = true) :
    Calls Try.prog 52 #[.agg cs] w (NewS2 70 3 (flH (weakL p)) 0 w) := by
  have hsz := hp.size
  have hle := allSd_len hv
  have hva := fun w T g hg => l01Ok_any p cs T g w hp hg
  have hv10 := valid_le hv
  have hin : ∀ h ∈ allSd p, isH p h = true := fun h hm => allSd_isH hm
  have hhur := fun w T g hg => l03All_any p cs T g w hp hg hv
  unfold weakL
  generalize allSd p = A at *
  refine enter1 Try.func52 rfl rfl rfl (Own.start w) ?_
  repeat' (first
    | (refine s_g ?_; first
      | (refine s_k 0 rfl ?_; refine s_val rfl rfl rfl (r_move rfl rfl) ?_)
      | (refine s_k 23 rfl ?_; first | refine s_val rfl rfl rfl (r_field tb rfl rfl rfl) ?_ | refine s_val rfl rfl rfl (r_fieldS tb rfl rfl rfl) ?_)
      | (refine s_k 8 rfl ?_; first | (refine' s_val rfl rfl rfl (r_ldv rfl rfl ?qm ?qv) ?_; (case qm => (exact zMm)); (case qv => (first | exact ldvL tb rfl rfl | exact ldv1 tb rfl (by assumption) | exact ldvW tb rfl rfl | exact ldvW tb rfl (by assumption) | exact ldvW tb rfl (Pv.size (by assumption)) | exact ldvN tb rfl ext2_0 rfl | exact ldvN tb rfl ext2_2 rfl))) | (refine' s_val rfl rfl rfl (r_ldo rfl rfl ?qw (by simp) ?qv) ?_; (case qw => assumption); (case qv => (first | exact ldvL tb rfl rfl | exact ldv1 tb rfl (by assumption) | exact ldvW tb rfl rfl | exact ldvW tb rfl (by assumption) | exact ldvW tb rfl (Pv.size (by assumption)) | exact ldvN tb rfl ext2_0 rfl | exact ldvN tb rfl ext2_2 rfl))))
      | (refine s_k 1 rfl ?_; refine s_val rfl rfl rfl (r_assign rfl rfl) ?_)
      | (refine s_k 13 rfl ?_; first | refine s_val rfl rfl rfl (r_lss rfl rfl rfl) ?_ | refine s_val rfl rfl rfl (r_eql rfl rfl rfl) ?_ | refine s_val rfl rfl rfl (r_add rfl rfl rfl (wrap_in (by simp only [lo, hi]; omega))) ?_)
      | (refine s_k 35 rfl ?_; first | (refine s_call Try.func137 (by kernel_rfl) rfl rfl rfl rfl rfl rfl (fun w hL => (by have q := hva w _ _ (hL.at_ m0); rw [hv] at q; exact q)) ?_) | (refine s_callN Try.func148 (by kernel_rfl) rfl rfl rfl rfl rfl rfl (fun w hL => hhur w _ _ (hL.at_ m0)) fun ga ka capa cura hAa => ?_))
      | (refine s_k 14 rfl ?_; refine s_val rfl rfl rfl (r_not rfl rfl) ?_)
      | (refine s_k 25 rfl ?_; first | refine s_val rfl rfl rfl (r_ixN tb rfl rfl rfl rfl (by omega)) ?_ | refine s_val rfl rfl rfl (r_ixA tb rfl rfl rfl rfl (by omega) (by omega)) ?_ | refine s_val rfl rfl rfl (r_ixO tb rfl rfl rfl rfl (by omega)) ?_)
      | (refine s_k 4 rfl ?_; first | refine s_boxA rfl rfl rfl rfl rfl fun blk => ?_ | refine s_box1 rfl rfl rfl rfl rfl rfl fun blk => ?_)
      | (refine s_k 9 rfl ?_; (first | refine s_st1 tb rfl rfl rfl rfl rfl rfl rfl rfl ?_ | refine s_stA tb rfl rfl rfl rfl (by first | rfl | assumption | (apply Pv.size; assumption)) rfl rfl ?_); (first | refine' st0 ?qs ?_ | refine' st1 ?qs ?_ | refine' st2 ?qs ?_ | refine' st3 ?qs ?_ | refine' st4 ?qs ?_ | refine' st5 ?qs ?_ | refine' st6 ?qs ?_ | refine' st7 ?qs ?_ | refine' st8 ?qs ?_ | refine' st9 ?qs ?_ | refine' st10 ?qs ?_ | refine' st11 ?qs ?_); (case qs => (first | exact zSet)))
      | (refine s_k 36 rfl ?_; refine s_val rfl rfl rfl (r_len tb rfl rfl rfl) ?_)
      | (refine s_k 6 rfl ?_; refine s_bsl rfl rfl (fun w => slHurdle0 w) rfl rfl rfl fun blk => ?_)
      | refine s_nil ?_)
    | (refine c_g ?_; first | refine c_seq ?_ | refine c_region ?_ | (refine c_gc ?_; first | refine c_cond1 rfl zTr ?_ | refine c_cond0 rfl zTr ?_ | refine z_condd1 rfl ?_ | refine z_condd0 rfl ?_ | refine z_conddn1 rfl ?_ | refine z_conddn0 rfl ?_ | refine c_condd rfl (fun hc => ?_) (fun hc => ?_) | refine c_conddn rfl (fun hc => ?_) (fun hc => ?_) | refine c_condn rfl (fun hc => ?_) (fun hc => ?_) | refine c_cond rfl (fun hc => ?_) (fun hc => ?_)) | refine c_block ?_ | refine c_skip ?_ | refine c_exit ?_ | refine c_ret ?_)
    | (refine e_g ?_; first | refine e_then ?_ | refine e_blkn ?_ | refine e_thenx ?_ | refine e_thenr ?_ | refine e_blkr ?_ | refine e_blkx ?_ | refine e_blky rfl ?_))
  rename_i b1
  obtain rfl : ka = A.length := by simpa using hAa.count (lenHd A) (by omega)
  refine c_loop (ι := Nat × Nat × Nat × Array Value) (fun i => A.length - i.1) (fun i => i.1 ≤ A.length ∧ Ap 3 ((A.take i.1).filter (weakB p)).length i.2.2.1 i.2.2.2 (flH ((A.take i.1).filter (weakB p)))) (fun i => [(6, .int .i64 (i.1 : Int)), (5, .slice (some ⟨i.2.1, 0, none⟩) ((A.take i.1).filter (weakB p)).length i.2.2.1), (4, .slice (some ⟨ga, 0, none⟩) A.length capa), (1, .pointer (some ⟨b1, 0, none⟩))]) (fun i => [(i.2.1, 70, i.2.2.2), (ga, 70, cura), (b1, 34, cs)]) (0, blk, 0, #[]) ⟨by simp, by simpa [flH] using Ap.nil 3⟩ ?hs rfl ?_
  case hs => (repeat' (first | exact sub_nil | refine sub_cons rfl ?_))
  rintro ⟨k, g, cap, cur⟩ ⟨hk, hA⟩
  simp only at hk hA ⊢
  have hol : ((A.take k).filter (weakB p)).length ≤ 200 := Nat.le_trans (List.length_filter_le _ _) (by simp; omega)
  by_cases hlt : k < A.length
  · have hx : A[k]? = some A[k] := List.getElem?_eq_getElem hlt
    have hh := hin A[k] (List.getElem_mem hlt)
    have hsn := filt_snoc (f := weakB p) hx
    have hcap := hAa.le
    have hxc : (A.map Hd.cells)[k]? = some A[k].cells := by simp [hx]
    generalize A[k] = h at *
    have hsp := hAa.hd hx
    have hst := fun w g T hg => l03Stands_any p cs T g h w hp hg hv10.1 hv10.2 hh
    have hk1 : (k : Int) + 1 = ((k + 1 : Nat) : Int) := by omega
    obtain ⟨hr, hro⟩ := isH_facts hh
    obtain ⟨c', hc'⟩ := foldP_ex (on := true) hp (inP_one hh)
    have hq0 := foldP_keep true [h] p (i := 0) (by omega)
    have hq1 := foldP_keep true [h] p (i := 1) (by omega)
    have hput := fun w b off hS => l03Put_any p cs c' [h] true (some ⟨b, off, none⟩) (capa - k) w hp hS (by unfold maxLen; simp) (inP_one hh) hc'
    have hwB : weakB p h = (!stP p h && decide (strD (foldP p [h] true) ⟨h.x, h.y⟩ (ci (othS h)) = 0)) := rfl
    generalize foldP p [h] true = q at *
    have hD := strD_val q (o := ⟨h.x, h.y⟩) hr
    have hT := giA_ok .i64 0 (strD q ⟨h.x, h.y⟩)
    have hTs := hT.size
    have hDo := hD (ci (othS h))
    have hld : (giA .i64 0 (strD q ⟨h.x, h.y⟩))[0 + (othS h).y.toNat * 10 + (othS h).x.toNat * 1]? = some (.int .i64 (strD q ⟨h.x, h.y⟩ (ci (othS h)) - 0)) := hT.at_ ⟨hro.1, hro.2.1⟩ hro.2.2
    have hrn : (0 ≤ (othS h).x ∧ (othS h).x < 10) ∧ 0 ≤ (othS h).y ∧ (othS h).y < 10 := ⟨⟨hro.1, hro.2.1⟩, hro.2.2⟩
    have hside := fun w => l03Side_any h.x h.y h.s w
    have hnx : ∀ w, Calls Try.prog 139 #[.agg #[.int .i8 h.x, .int .i8 h.y], .int .i64 (sdOf h.s)] w fun e w' => e = .returned (.agg #[.int .i8 (othS h).x, .int .i8 (othS h).y]) ∧ Below w.heap.size w w' := fun w => l01Next_any h.x h.y (sdOf h.s) w (by have := hr; unfold inR at this; simp only at this; omega) (by have := hr; unfold inR at this; simp only at this; omega)
    have hstp := fun w T g hg => l01Steps_any q c' T g ⟨h.x, h.y⟩ w hc' hg (by omega) (by omega) hr
    have hsub := fun (w : World) (hg : w.heap[ga]? = some (.cells cura 70 (0, 0))) => SlA.sub1 (hAa.slA (lenHd A) hg) hxc
    generalize othS h = o at *
    cases hsv : stP p h
    case' false =>
      by_cases hz : strD q ⟨h.x, h.y⟩ (ci o) = 0
      case' pos => have hwv : weakB p h = true := by rw [hwB, hsv, decide_eq_true hz]; rfl
      case' neg => have hwv : weakB p h = false := by rw [hwB, decide_eq_false hz, Bool.and_false]
    case' true => have hwv : weakB p h = false := by rw [hwB, hsv]; rfl
    all_goals
      rw [hwv] at hsn
      simp only [if_true, if_false, Bool.false_eq_true, List.append_nil] at hsn
      repeat' (first
        | (refine s_g ?_; first
      | (refine s_k 0 rfl ?_; refine s_val rfl rfl rfl (r_move rfl rfl) ?_)
      | (refine s_k 23 rfl ?_; first | refine s_val rfl rfl rfl (r_field tb rfl rfl rfl) ?_ | refine s_val rfl rfl rfl (r_fieldS tb rfl rfl rfl) ?_)
      | (refine s_k 8 rfl ?_; first | refine s_val rfl rfl rfl (r_ldN tb rfl rfl m1 rfl hsp.1.1 hsp.1.2) ?_ | refine s_val rfl rfl rfl (r_ldN tb rfl rfl m2 rfl hsp.2.1 hsp.2.2) ?_ | refine s_val rfl rfl rfl (r_ldN tb rfl rfl m3 rfl hsp.2.1 hsp.2.2) ?_ | refine s_val rfl rfl rfl (r_ldN tb rfl rfl m3 rfl hsp.1.1 hsp.1.2) ?_ | refine s_val rfl rfl rfl (r_ldN tb rfl rfl m4 rfl hsp.1.1 hsp.1.2) ?_ | (refine' s_val rfl rfl rfl (r_ldv rfl rfl ?qm ?qv) ?_; (case qm => (exact zMm)); (case qv => (first | exact ldvL tb rfl rfl | exact ldv1 tb rfl (by assumption) | exact ldv1 tb rfl (hld) | exact ldvW tb rfl rfl | exact ldvW tb rfl (by assumption) | exact ldvW tb rfl (Pv.size (by assumption)) | exact ldvN tb rfl ext2_0 rfl | exact ldvN tb rfl ext2_2 rfl))) | (refine' s_val rfl rfl rfl (r_ldo rfl rfl ?qw (by simp) ?qv) ?_; (case qw => assumption); (case qv => (first | exact ldvL tb rfl rfl | exact ldv1 tb rfl (by assumption) | exact ldv1 tb rfl (hld) | exact ldvW tb rfl rfl | exact ldvW tb rfl (by assumption) | exact ldvW tb rfl (Pv.size (by assumption)) | exact ldvN tb rfl ext2_0 rfl | exact ldvN tb rfl ext2_2 rfl))))
      | (refine s_k 1 rfl ?_; refine s_val rfl rfl rfl (r_assign rfl rfl) ?_)
      | (refine s_k 13 rfl ?_; first | refine s_val rfl rfl rfl (r_add rfl rfl rfl (by rw [hk1]; exact wrap_in (by simp only [lo, hi]; omega))) ?_ | refine s_val rfl rfl rfl (r_lss rfl rfl rfl) ?_ | refine s_val rfl rfl rfl (r_eql rfl rfl rfl) ?_ | refine s_val rfl rfl rfl (r_add rfl rfl rfl (wrap_in (by simp only [lo, hi]; omega))) ?_)
      | (refine s_k 35 rfl ?_; first | (refine s_call Try.func149 (by kernel_rfl) rfl rfl rfl rfl rfl rfl (fun w hL => (by have z := hst w _ _ (hL.at_ m2); rw [hsv] at z; exact z)) ?_) | (refine s_call Try.func150 (by kernel_rfl) rfl rfl rfl rfl rfl rfl (fun w hL => (by have z := hput w _ _ (hsub w (hL.at_ m1)); simp only [Nat.add_sub_cancel_left]; exact z)) ?_) | (refine s_call Try.func140 (by kernel_rfl) rfl rfl rfl rfl rfl rfl (fun w hL => hside w) ?_) | (refine s_call Try.func139 (by kernel_rfl) rfl rfl rfl rfl rfl rfl (fun w hL => hnx w) ?_) | (refine s_call Try.func108 (by kernel_rfl) rfl rfl rfl rfl rfl rfl (fun w hL => hstp w _ _ (hL.at_ m0)) ?_))
      | (refine s_k 14 rfl ?_; refine s_val rfl rfl rfl (r_not rfl rfl) ?_)
      | (refine s_k 25 rfl ?_; first | refine s_val rfl rfl rfl (r_ixO tb rfl rfl rfl rfl hlt) ?_ | refine s_val rfl rfl rfl (r_ixN tb rfl rfl rfl rfl (by omega)) ?_ | refine s_val rfl rfl rfl (r_ixA tb rfl rfl rfl rfl (by omega) (by omega)) ?_ | refine s_val rfl rfl rfl (r_ixO tb rfl rfl rfl rfl (by omega)) ?_)
      | (refine s_k 4 rfl ?_; first | refine s_boxA rfl rfl rfl rfl rfl fun blk => ?_ | refine s_box1 rfl rfl rfl rfl rfl rfl fun blk => ?_)
      | (refine s_k 9 rfl ?_; (first | refine s_st1 tb rfl rfl rfl rfl rfl rfl rfl rfl ?_ | refine s_stA tb rfl rfl rfl rfl (by first | rfl | assumption | (apply Pv.size; assumption)) rfl rfl ?_); (first | refine' st0 ?qs ?_ | refine' st1 ?qs ?_ | refine' st2 ?qs ?_ | refine' st3 ?qs ?_ | refine' st4 ?qs ?_ | refine' st5 ?qs ?_ | refine' st6 ?qs ?_ | refine' st7 ?qs ?_ | refine' st8 ?qs ?_ | refine' st9 ?qs ?_ | refine' st10 ?qs ?_ | refine' st11 ?qs ?_); (case qs => (first | exact set_whole (vs := o.cells.toArray) rfl (by simp [Sp.cells, Value.oneCell']) | exact setG (giA_ok _ _ _) zS64_ok.size | exact setP hc' rfl | exact zSet)))
      | (refine s_k 3 rfl ?_; first | refine s_allocA (t := 134) rfl z1010 rfl rfl rfl fun blk => ?_ | refine s_allocA (t := 49) rfl zImplSpot rfl rfl rfl fun blk => ?_ | refine s_allocA (t := 34) rfl zImplPas rfl rfl rfl fun blk => ?_)
      | (refine s_k 36 rfl ?_; first | refine s_app3 hA rfl rfl rfl uHurdleS iHurdle rfl (by omega) (by simp) (by simp) rfl (by simp [Value.oneCell']) (by unfold maxLen; omega) (by omega) rfl rfl rfl fun g cap cur hA => ?_ | refine s_val rfl rfl rfl (r_len tb rfl rfl rfl) ?_)
      | (refine s_k 22 rfl ?_; refine s_val rfl rfl rfl (r_slLH (i := k) (h := k + 1) tb rfl rfl rfl rfl rfl (by omega) (by omega) (by omega)) ?_)
      | (refine s_k 6 rfl ?_; refine s_bsl rfl rfl (fun w => slHurdle1 _ _ _ w) rfl rfl rfl fun blk => ?_)
      | refine s_nil ?_)
        | (refine c_g ?_; first | refine c_seq ?_ | refine c_region ?_ | (refine c_gc ?_; first | refine c_cond1 rfl zTr ?_ | refine c_cond0 rfl zTr ?_ | refine z_condd1 rfl ?_ | refine z_condd0 rfl ?_ | refine z_conddn1 rfl ?_ | refine z_conddn0 rfl ?_ | refine c_condd rfl (fun hc => ?_) (fun hc => ?_) | refine c_conddn rfl (fun hc => ?_) (fun hc => ?_) | refine c_condn rfl (fun hc => ?_) (fun hc => ?_) | refine c_cond rfl (fun hc => ?_) (fun hc => ?_)) | refine c_block ?_ | refine c_skip ?_ | refine c_exit ?_ | refine c_ret ?_)
        | (refine e_g ?_; first | refine e_then ?_ | refine e_blkn ?_ | refine e_thenx ?_ | refine e_thenr ?_ | refine e_blkr ?_ | refine e_blkx ?_ | refine e_blky rfl ?_)
        | (refine x_g ?_; first
      | (refine x_k 0 rfl ?_; (refine x_val rfl rfl rfl (r_move rfl rfl) ?hp ?_; (case hp => exact rfl)))
      | (refine x_k 23 rfl ?_; first | (refine x_val rfl rfl rfl (r_field tb rfl rfl rfl) ?hp ?_; (case hp => exact rfl)) | (refine x_val rfl rfl rfl (r_fieldS tb rfl rfl rfl) ?hp ?_; (case hp => exact rfl)))
      | (refine x_k 8 rfl ?_; first | (refine x_val rfl rfl rfl (r_ldN tb rfl rfl m1 rfl hsp.1.1 hsp.1.2) ?hp ?_; (case hp => exact rfl)) | (refine x_val rfl rfl rfl (r_ldN tb rfl rfl m2 rfl hsp.2.1 hsp.2.2) ?hp ?_; (case hp => exact rfl)) | (refine x_val rfl rfl rfl (r_ldN tb rfl rfl m3 rfl hsp.2.1 hsp.2.2) ?hp ?_; (case hp => exact rfl)) | (refine x_val rfl rfl rfl (r_ldN tb rfl rfl m3 rfl hsp.1.1 hsp.1.2) ?hp ?_; (case hp => exact rfl)) | (refine x_val rfl rfl rfl (r_ldN tb rfl rfl m4 rfl hsp.1.1 hsp.1.2) ?hp ?_; (case hp => exact rfl)) | (refine' x_val rfl rfl rfl (r_ldv rfl rfl ?qm ?qv) ?hp ?_; (case qm => (exact zMm)); (case qv => (first | exact ldvL tb rfl rfl | exact ldv1 tb rfl (by assumption) | exact ldv1 tb rfl (hld) | exact ldvW tb rfl rfl | exact ldvW tb rfl (by assumption) | exact ldvW tb rfl (Pv.size (by assumption)) | exact ldvN tb rfl ext2_0 rfl | exact ldvN tb rfl ext2_2 rfl)); (case hp => exact rfl)) | (refine' x_val rfl rfl rfl (r_ldo rfl rfl ?qw (by simp) ?qv) ?hp ?_; (case qw => assumption); (case qv => (first | exact ldvL tb rfl rfl | exact ldv1 tb rfl (by assumption) | exact ldv1 tb rfl (hld) | exact ldvW tb rfl rfl | exact ldvW tb rfl (by assumption) | exact ldvW tb rfl (Pv.size (by assumption)) | exact ldvN tb rfl ext2_0 rfl | exact ldvN tb rfl ext2_2 rfl)); (case hp => exact rfl)))
      | (refine x_k 1 rfl ?_; (refine x_val rfl rfl rfl (r_assign rfl rfl) ?hp ?_; (case hp => exact rfl)))
      | (refine x_k 13 rfl ?_; first | (refine x_val rfl rfl rfl (r_add rfl rfl rfl (by rw [hk1]; exact wrap_in (by simp only [lo, hi]; omega))) ?hp ?_; (case hp => exact rfl)) | (refine x_val rfl rfl rfl (r_lss rfl rfl rfl) ?hp ?_; (case hp => exact rfl)) | (refine x_val rfl rfl rfl (r_eql rfl rfl rfl) ?hp ?_; (case hp => exact rfl)) | (refine x_val rfl rfl rfl (r_add rfl rfl rfl (wrap_in (by simp only [lo, hi]; omega))) ?hp ?_; (case hp => exact rfl)))
      | (refine x_k 35 rfl ?_; first | (refine x_call Try.func149 (by kernel_rfl) rfl rfl rfl rfl rfl rfl (fun w hL => (by have z := hst w _ _ (hL.at_ m2); rw [hsv] at z; exact z)) ?hp ?_; (case hp => exact rfl)) | (refine x_call Try.func150 (by kernel_rfl) rfl rfl rfl rfl rfl rfl (fun w hL => (by have z := hput w _ _ (hsub w (hL.at_ m1)); simp only [Nat.add_sub_cancel_left]; exact z)) ?hp ?_; (case hp => exact rfl)) | (refine x_call Try.func140 (by kernel_rfl) rfl rfl rfl rfl rfl rfl (fun w hL => hside w) ?hp ?_; (case hp => exact rfl)) | (refine x_call Try.func139 (by kernel_rfl) rfl rfl rfl rfl rfl rfl (fun w hL => hnx w) ?hp ?_; (case hp => exact rfl)) | (refine x_call Try.func108 (by kernel_rfl) rfl rfl rfl rfl rfl rfl (fun w hL => hstp w _ _ (hL.at_ m0)) ?hp ?_; (case hp => exact rfl)))
      | (refine x_k 14 rfl ?_; (refine x_val rfl rfl rfl (r_not rfl rfl) ?hp ?_; (case hp => exact rfl)))
      | (refine x_k 25 rfl ?_; first | (refine x_val rfl rfl rfl (r_ixO tb rfl rfl rfl rfl hlt) ?hp ?_; (case hp => exact rfl)) | (refine x_val rfl rfl rfl (r_ixN tb rfl rfl rfl rfl (by omega)) ?hp ?_; (case hp => exact rfl)) | (refine x_val rfl rfl rfl (r_ixA tb rfl rfl rfl rfl (by omega) (by omega)) ?hp ?_; (case hp => exact rfl)) | (refine x_val rfl rfl rfl (r_ixO tb rfl rfl rfl rfl (by omega)) ?hp ?_; (case hp => exact rfl)))
      | (refine x_k 4 rfl ?_; (refine x_boxA rfl rfl rfl rfl rfl ?hp (fun blk => ?_); (case hp => exact rfl)))
      | (refine x_k 9 rfl ?_; first | (refine' x_putA0 tb rfl rfl rfl rfl (by first | rfl | assumption | (apply Pv.size; assumption)) ?qs (by first | rfl | assumption | (apply Pv.size; assumption)) rfl rfl ?hp ?_; (case qs => (first | exact set_whole (vs := o.cells.toArray) rfl (by simp [Sp.cells, Value.oneCell']) | exact setG (giA_ok _ _ _) zS64_ok.size | exact setP hc' rfl | exact zSet)); (case hp => exact rfl)) | (refine' x_putA1 tb rfl rfl rfl rfl (by first | rfl | assumption | (apply Pv.size; assumption)) ?qs (by first | rfl | assumption | (apply Pv.size; assumption)) rfl rfl ?hp ?_; (case qs => (first | exact set_whole (vs := o.cells.toArray) rfl (by simp [Sp.cells, Value.oneCell']) | exact setG (giA_ok _ _ _) zS64_ok.size | exact setP hc' rfl | exact zSet)); (case hp => exact rfl)) | (refine' x_putA2 tb rfl rfl rfl rfl (by first | rfl | assumption | (apply Pv.size; assumption)) ?qs (by first | rfl | assumption | (apply Pv.size; assumption)) rfl rfl ?hp ?_; (case qs => (first | exact set_whole (vs := o.cells.toArray) rfl (by simp [Sp.cells, Value.oneCell']) | exact setG (giA_ok _ _ _) zS64_ok.size | exact setP hc' rfl | exact zSet)); (case hp => exact rfl)))
      | (refine x_k 3 rfl ?_; first | (refine x_allocA (t := 134) rfl z1010 rfl rfl rfl ?hp (fun blk => ?_); (case hp => exact rfl)) | (refine x_allocA (t := 49) rfl zImplSpot rfl rfl rfl ?hp (fun blk => ?_); (case hp => exact rfl)) | (refine x_allocA (t := 34) rfl zImplPas rfl rfl rfl ?hp (fun blk => ?_); (case hp => exact rfl)))
      | (refine x_k 36 rfl ?_; (refine x_val rfl rfl rfl (r_len tb rfl rfl rfl) ?hp ?_; (case hp => exact rfl)))
      | (refine x_k 22 rfl ?_; (refine x_val rfl rfl rfl (r_slLH (i := k) (h := k + 1) tb rfl rfl rfl rfl rfl (by omega) (by omega) (by omega)) ?hp ?_; (case hp => exact rfl)))
      | refine x_nil0 ?_
      | refine x_nil ?_)
        | (refine' c_drawX (id := 9) [(Sum.inl _ : Calm.Plan), (Sum.inl _ : Calm.Plan), (Sum.inl _ : Calm.Plan), (Sum.inl _ : Calm.Plan), (Sum.inl _ : Calm.Plan), (Sum.inl _ : Calm.Plan), (Sum.inl _ : Calm.Plan), (Sum.inr (false, _, _) : Calm.Plan), (Sum.inr (true, _, _) : Calm.Plan)] (by kernel_rfl) (by kernel_rfl) (by kernel_rfl) ?_)
        | (refine' c_drawX (id := 11) [(Sum.inl _ : Calm.Plan), (Sum.inl _ : Calm.Plan), (Sum.inl _ : Calm.Plan), (Sum.inl _ : Calm.Plan), (Sum.inl _ : Calm.Plan), (Sum.inl _ : Calm.Plan), (Sum.inl _ : Calm.Plan), (Sum.inl _ : Calm.Plan), (Sum.inl _ : Calm.Plan), (Sum.inl _ : Calm.Plan), (Sum.inl _ : Calm.Plan), (Sum.inr (false, _, _) : Calm.Plan), (Sum.inr (true, _, _) : Calm.Plan)] (by kernel_rfl) (by kernel_rfl) (by kernel_rfl) ?_)
        | (refine' c_drawX (id := 12) [(Sum.inl _ : Calm.Plan), (Sum.inl _ : Calm.Plan), (Sum.inl _ : Calm.Plan), (Sum.inl _ : Calm.Plan), (Sum.inl _ : Calm.Plan), (Sum.inl _ : Calm.Plan), (Sum.inl _ : Calm.Plan), (Sum.inl _ : Calm.Plan)] (by kernel_rfl) (by kernel_rfl) (by kernel_rfl) ?_)
        | refine e_drop0 (e_drop0 (e_drop0 (e_round (k + 1, g, cap, cur) (by simp; omega) ⟨by simp; omega, ?_⟩ ?hs rfl)))
        | refine e_round (k + 1, g, cap, cur) (by simp; omega) ⟨by simp; omega, ?_⟩ ?hs rfl)
      all_goals first
        | (case hs => rw [hsn]; (repeat' (first | exact sub_nil | refine sub_cons rfl ?_ | refine sub_cons' rfl (by simp) ?_)); done)
        | (rw [hsn]; first | exact hA | (rw [flH_snoc]; simpa [Hd.cells] using hA))
  · have hkA : k = A.length := by omega
    subst hkA
    rw [List.take_length] at hA ⊢
    repeat' (first
      | (refine s_g ?_; first
      | (refine s_k 0 rfl ?_; refine s_val rfl rfl rfl (r_move rfl rfl) ?_)
      | (refine s_k 23 rfl ?_; first | refine s_val rfl rfl rfl (r_field tb rfl rfl rfl) ?_ | refine s_val rfl rfl rfl (r_fieldS tb rfl rfl rfl) ?_)
      | (refine s_k 8 rfl ?_; first | (refine' s_val rfl rfl rfl (r_ldv rfl rfl ?qm ?qv) ?_; (case qm => (exact zMm)); (case qv => (first | exact ldvL tb rfl rfl | exact ldv1 tb rfl (by assumption) | exact ldvW tb rfl rfl | exact ldvW tb rfl (by assumption) | exact ldvW tb rfl (Pv.size (by assumption)) | exact ldvN tb rfl ext2_0 rfl | exact ldvN tb rfl ext2_2 rfl))) | (refine' s_val rfl rfl rfl (r_ldo rfl rfl ?qw (by simp) ?qv) ?_; (case qw => assumption); (case qv => (first | exact ldvL tb rfl rfl | exact ldv1 tb rfl (by assumption) | exact ldvW tb rfl rfl | exact ldvW tb rfl (by assumption) | exact ldvW tb rfl (Pv.size (by assumption)) | exact ldvN tb rfl ext2_0 rfl | exact ldvN tb rfl ext2_2 rfl))))
      | (refine s_k 1 rfl ?_; refine s_val rfl rfl rfl (r_assign rfl rfl) ?_)
      | (refine s_k 13 rfl ?_; first | refine s_val rfl rfl rfl (r_lss rfl rfl rfl) ?_ | refine s_val rfl rfl rfl (r_eql rfl rfl rfl) ?_ | refine s_val rfl rfl rfl (r_add rfl rfl rfl (wrap_in (by simp only [lo, hi]; omega))) ?_)
      | (refine s_k 14 rfl ?_; refine s_val rfl rfl rfl (r_not rfl rfl) ?_)
      | (refine s_k 25 rfl ?_; first | refine s_val rfl rfl rfl (r_ixN tb rfl rfl rfl rfl (by omega)) ?_ | refine s_val rfl rfl rfl (r_ixA tb rfl rfl rfl rfl (by omega) (by omega)) ?_ | refine s_val rfl rfl rfl (r_ixO tb rfl rfl rfl rfl (by omega)) ?_)
      | (refine s_k 4 rfl ?_; first | refine s_boxA rfl rfl rfl rfl rfl fun blk => ?_ | refine s_box1 rfl rfl rfl rfl rfl rfl fun blk => ?_)
      | (refine s_k 9 rfl ?_; (first | refine s_st1 tb rfl rfl rfl rfl rfl rfl rfl rfl ?_ | refine s_stA tb rfl rfl rfl rfl (by first | rfl | assumption | (apply Pv.size; assumption)) rfl rfl ?_); (first | refine' st0 ?qs ?_ | refine' st1 ?qs ?_ | refine' st2 ?qs ?_ | refine' st3 ?qs ?_ | refine' st4 ?qs ?_ | refine' st5 ?qs ?_ | refine' st6 ?qs ?_ | refine' st7 ?qs ?_ | refine' st8 ?qs ?_ | refine' st9 ?qs ?_ | refine' st10 ?qs ?_ | refine' st11 ?qs ?_); (case qs => (first | exact zSet)))
      | (refine s_k 36 rfl ?_; refine s_val rfl rfl rfl (r_len tb rfl rfl rfl) ?_)
      | refine s_nil ?_)
      | (refine c_g ?_; first | refine c_seq ?_ | refine c_region ?_ | (refine c_gc ?_; first | refine c_cond1 rfl zTr ?_ | refine c_cond0 rfl zTr ?_ | refine z_condd1 rfl ?_ | refine z_condd0 rfl ?_ | refine z_conddn1 rfl ?_ | refine z_conddn0 rfl ?_ | refine c_condd rfl (fun hc => ?_) (fun hc => ?_) | refine c_conddn rfl (fun hc => ?_) (fun hc => ?_) | refine c_condn rfl (fun hc => ?_) (fun hc => ?_) | refine c_cond rfl (fun hc => ?_) (fun hc => ?_)) | refine c_block ?_ | refine c_skip ?_ | refine c_exit ?_ | refine c_ret ?_)
      | (refine e_g ?_; first | refine e_then ?_ | refine e_blkn ?_ | refine e_thenx ?_ | refine e_thenr ?_ | refine e_blkr ?_ | refine e_blkx ?_ | refine e_blky rfl ?_)
      | (refine e_ret2 (by simp) rfl (re_tmp rfl) (re_tmp rfl) fun w hL => NewS2.of hA hL m0))
end Go.Proofs.YtdnndidihedndaaRR
