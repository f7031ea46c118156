import Derived.Test.YtnafnhpajkhgkaaQW23
import Derived.Test.YtnafnhpajkhgkaaQW37
import Derived.Test.YtnafnhpajkhgkaaQW42
import Derived.Test.YtnafnhpajkhgkaaQW45
/- WaysApart: the program's. No condition but lengths. -/
namespace Go.Proofs.Ytnafnhpajkhgkaa
set_option linter.unusedVariables false
set_option linter.unusedSimpArgs false
open Go.RowKit Mem Wk
theorem Wk.e_rot5 {Q : Exit → Act → World → Prop} {n : Nat} {O : List Nat} {w0 : World} {e : Exit} {l : List (Nat × Value)} {a b c d f g : Nat × TypeId × Array Value} {L : List (Nat × TypeId × Array Value)} (h : E Q n O w0 e l (b :: c :: d :: f :: g :: a :: L)) : E Q n O w0 e l (a :: b :: c :: d :: f :: g :: L) := e_permW (List.perm_middle (l₁ := [b, c, d, f, g]) (l₂ := L)).symm h
theorem bestL_cases {D : Nat → Int} {l : List Sp} {j : Nat} {s : Sp} (hs : l[j]? = some s) : bestL D (l.take (j + 1)) = bestStep D (bestL D (l.take j)) s := by
  rw [List.take_add_one, hs]; exact bestL_snoc D _ s
theorem bestS_no {D : Nat → Int} {q : Sp × Int} {s : Sp} (h : ¬ (0 ≤ D (ci s) - 1 ∧ (q.2 < 0 ∨ D (ci s) - 1 < q.2))) : bestStep D q s = q := by unfold bestStep; rw [if_neg h]
theorem bestS_yes {D : Nat → Int} {q : Sp × Int} {s : Sp} (h : 0 ≤ D (ci s) - 1 ∧ (q.2 < 0 ∨ D (ci s) - 1 < q.2)) : bestStep D q s = (s, D (ci s) - 1) := by unfold bestStep; rw [if_pos h]
theorem flH_len3 : ∀ l : List Hd, (flH l).length = l.length * 3
  | [] => rfl
  | a :: l => by have ih := flH_len3 l; simp [flH, Hd.cells] at ih ⊢; omega
/-- what the program's round finds: nothing, or a way from the best cell -/
theorem impl_best {q : Nat → Int} {A B : List Sp} (hA : ∀ c ∈ A, cel q c) (hB : ∀ c ∈ B, cel q c) :
    ((bestL (stepsP q B).1 (ordL A)).2 < 0 ∧ specW q A B = []) ∨ (¬ (bestL (stepsP q B).1 (ordL A)).2 < 0 ∧ cel q (bestL (stepsP q B).1 (ordL A)).1 ∧ (stepsP q B).1 (ci (bestL (stepsP q B).1 (ordL A)).1) = (((bestL (stepsP q B).1 (ordL A)).2.toNat : Nat) : Int) + 1 ∧ specW q A B = gw q (stepsP q B).1 (bestL (stepsP q B).1 (ordL A)).2.toNat (bestL (stepsP q B).1 (ordL A)).1 ∧ specW q A B ≠ []) := by
  rw [← first_eq hA hB]
  have h := bestL_prop (D := (stepsP q B).1) (stp_nn (celR hB)) _ (ordL A) rfl (ordL_lt A)
  unfold implW
  rcases h with ⟨hm, _⟩ | ⟨hm, hmD, hs, _⟩
  · rw [hm]; exact .inl ⟨by omega, by rw [if_pos (by omega)]⟩
  · rw [if_neg (by omega)]
    obtain ⟨t, ht⟩ := gw_head q (stepsP q B).1 (bestL (stepsP q B).1 (ordL A)).2.toNat (bestL (stepsP q B).1 (ordL A)).1
    exact .inr ⟨by omega, hA _ ((ordL_mem (celR hA) _).1 hs), by omega, rfl, by rw [ht]; simp⟩
attribute [local irreducible] Calls Wk.S Wk.C Wk.E Wk.X Wk.T Wk.Y Wk.anV Wk.orV Wk.andV Wk.shlV Wk.shrV Calm.wpLex CalmB.wpLex bfsN stepsP bfs specW wayP wS opnN bestL ordL gw
set_option maxRecDepth 100000 in
set_option maxHeartbeats 1600000 in
theorem implWays_no (p : Nat → Int) (cs : Array Value) (a b : List Sp) (ga na capa gb nb capb : Nat) (cura curb : Array Value) (w : World) (hp : Pv p cs) (hAa : Ap 2 na capa cura (flS a)) (hga : w.heap[ga]? = some (.cells cura 52 (0, 0))) (hAb : Ap 2 nb capb curb (flS b)) (hgb : w.heap[gb]? = some (.cells curb 52 (0, 0))) (hna : a.length + b.length ≤ 1048576) (hoa : ∀ c ∈ a, c.ok) (hob : ∀ c ∈ b, c.ok) (h0 : ptC p a b ≠ 0) :
    Calls Try.prog 14 #[.agg cs, .slice (some ⟨ga, 0, none⟩) a.length capa, .slice (some ⟨gb, 0, none⟩) b.length capb] w fun e w' => e = .returned (.tuple #[.slice none 0 0, .int .i64 (ptC p a b)]) ∧ Below w.heap.size w w' := by
  have hsz := hp.size
  have hpt := fun w hga hgb => partCode_any p cs a b ga na capa gb nb capb 52 52 cura curb w hp hAa hga hAb hgb hna hoa hob
  generalize ptC p a b = c at *
  refine enter3 Try.func14 rfl rfl rfl (Own.start w) ?_
  repeat' (first
    | (refine s_g ?_; first
      | (refine s_gd rfl ?_; first | refine s_gd1 rfl rfl zTr ?_ | refine s_gd0 rfl rfl rfl zTr ?_ | refine s_gd00 rfl rfl zTr ?_ | refine s_gp1 rfl rfl rfl (fun hc => ?_) (fun hc => ?_) | refine s_gp0 rfl rfl rfl (fun hc => ?_) (fun hc => ?_) | refine s_gnp1 rfl rfl rfl (fun hc => ?_) (fun hc => ?_) | refine s_gnp0 rfl rfl rfl (fun hc => ?_) (fun hc => ?_) | refine s_gb1 rfl rfl rfl (fun hc => ?_) (fun hc => ?_) | refine s_gb0 rfl rfl rfl (fun hc => ?_) (fun hc => ?_) | refine s_gnb1 rfl rfl rfl (fun hc => ?_) (fun hc => ?_) | refine s_gnb0 rfl rfl rfl (fun hc => ?_) (fun hc => ?_))
      | (refine s_k 0 rfl ?_; refine s_val rfl rfl rfl (r_move rfl rfl) ?_)
      | (refine s_k 8 rfl ?_; first | (refine' s_val rfl rfl rfl (r_ldv rfl rfl ?qm ?qv) ?_; (case qm => (exact zMm)); (case qv => (first | exact ldvL tb rfl rfl | exact ldv1 tb rfl (by assumption) | exact ldvW tb rfl rfl | exact ldvW tb rfl (by assumption) | exact ldvW tb rfl (Pv.size (by assumption)) | exact ldvN tb rfl ext2_0 rfl | exact ldvN tb rfl ext2_2 rfl))) | (refine' s_val rfl rfl rfl (r_ldo rfl rfl ?qw (by simp) ?qv) ?_; (case qw => assumption); (case qv => (first | exact ldvL tb rfl rfl | exact ldv1 tb rfl (by assumption) | exact ldvW tb rfl rfl | exact ldvW tb rfl (by assumption) | exact ldvW tb rfl (Pv.size (by assumption)) | exact ldvN tb rfl ext2_0 rfl | exact ldvN tb rfl ext2_2 rfl))))
      | (refine s_k 1 rfl ?_; refine s_val rfl rfl rfl (r_assign rfl rfl) ?_)
      | (refine s_k 13 rfl ?_; first | refine s_val rfl rfl rfl (r_lss rfl rfl rfl) ?_ | refine s_val rfl rfl rfl (r_neq rfl rfl rfl) ?_ | refine s_val rfl rfl rfl (r_add rfl rfl rfl (wrap_in (by simp only [lo, hi]; omega))) ?_ | refine s_val rfl rfl rfl (r_geq rfl rfl rfl) ?_)
      | (refine s_k 35 rfl ?_; (refine s_call Try.func39 (by kernel_rfl) rfl rfl rfl rfl rfl rfl (fun w hL => hpt w (Kn.old hL hga (by simp)) (Kn.old hL hgb (by simp))) ?_))
      | (refine s_k 2 rfl ?_; first | refine s_val rfl rfl rfl (r_pick1 rfl rfl zTr rfl) ?_ | refine s_val rfl rfl rfl (r_pick0 rfl rfl zTr rfl) ?_)
      | (refine s_k 25 rfl ?_; first | refine s_val rfl rfl rfl (r_ixN tb rfl rfl rfl rfl (by omega)) ?_ | refine s_val rfl rfl rfl (r_ixA tb rfl rfl rfl rfl (by omega) (by omega)) ?_ | refine s_val rfl rfl rfl (r_ixO tb rfl rfl rfl rfl (by omega)) ?_)
      | (refine s_k 4 rfl ?_; first | refine s_boxA rfl rfl rfl rfl rfl fun blk => ?_ | refine s_box1 rfl rfl rfl rfl rfl rfl fun blk => ?_)
      | (refine s_k 9 rfl ?_; (first | refine s_st1 tb rfl rfl rfl rfl rfl rfl rfl rfl ?_ | refine s_stA tb rfl rfl rfl rfl (by first | rfl | assumption | (apply Pv.size; assumption)) rfl rfl ?_); (first | refine' st0 ?qs ?_ | refine' st1 ?qs ?_ | refine' st2 ?qs ?_ | refine' st3 ?qs ?_ | refine' st4 ?qs ?_ | refine' st5 ?qs ?_ | refine' st6 ?qs ?_ | refine' st7 ?qs ?_ | refine' st8 ?qs ?_ | refine' st9 ?qs ?_ | refine' st10 ?qs ?_ | refine' st11 ?qs ?_); (case qs => (first | exact zSet)))
      | (refine s_k 36 rfl ?_; refine s_val rfl rfl rfl (r_len tb rfl rfl rfl) ?_)
      | refine s_nil ?_)
    | (refine c_g ?_; first | refine c_seq ?_ | refine c_region ?_ | (refine c_gc ?_; first | refine c_cond1 rfl zTr ?_ | refine c_cond0 rfl zTr ?_ | refine z_condd1 rfl ?_ | refine z_condd0 rfl ?_ | refine z_conddn1 rfl ?_ | refine z_conddn0 rfl ?_ | refine c_condd rfl (fun hc => ?_) (fun hc => ?_) | refine c_conddn rfl (fun hc => ?_) (fun hc => ?_) | refine c_condn rfl (fun hc => ?_) (fun hc => ?_) | refine c_cond rfl (fun hc => ?_) (fun hc => ?_)) | refine c_block ?_ | refine c_skip ?_ | refine c_exit ?_ | refine c_ret ?_)
    | (refine e_g ?_; first | refine e_then ?_ | refine e_blkn ?_ | refine e_thenx ?_ | refine e_thenr ?_ | refine e_blkr ?_ | refine e_blkx ?_ | refine e_blky rfl ?_)
    | (refine e_ret2 (by simp) rfl (re_tmp rfl) (re_tmp rfl) fun w hL => ⟨rfl, hL.toBelow⟩))
set_option maxRecDepth 100000 in
set_option maxHeartbeats 6400000 in
theorem implWays_ok (p : Nat → Int) (cs : Array Value) (a b : List Sp) (ga na capa gb nb capb : Nat) (cura curb : Array Value) (w : World) (hp : Pv p cs) (hAa : Ap 2 na capa cura (flS a)) (hga : w.heap[ga]? = some (.cells cura 52 (0, 0))) (hAb : Ap 2 nb capb curb (flS b)) (hgb : w.heap[gb]? = some (.cells curb 52 (0, 0))) (hna : a.length + b.length ≤ 1048576) (hoa : ∀ c ∈ a, c.ok) (hob : ∀ c ∈ b, c.ok) (h0 : ptC p a b = 0) :
    Calls Try.prog 14 #[.agg cs, .slice (some ⟨ga, 0, none⟩) a.length capa, .slice (some ⟨gb, 0, none⟩) b.length capb] w (NewSS2 (waR p a b) 0 w) := by
  have hsz := hp.size
  have hpt := fun w hga hgb => partCode_any p cs a b ga na capa gb nb capb 52 52 cura curb w hp hAa hga hAb hgb hna hoa hob
  rw [h0] at hpt
  obtain ⟨hc0, hno⟩ := ptC_0 h0
  obtain ⟨hv, hin⟩ := cellC_0 hc0
  have hca : ∀ c ∈ a, cel p c := fun c hc => hin c (List.mem_append_left _ hc)
  have hcb : ∀ c ∈ b, cel p c := fun c hc => hin c (List.mem_append_right _ hc)
  have hra : ∀ c ∈ a, inR c := celR hca
  have hrb : ∀ c ∈ b, inR c := celR hcb
  have hSA := hAa.slA (lenSp a) hga
  have hSB := hAb.slA (lenSp b) hgb
  obtain rfl := hAa.cnt
  obtain rfl := hAb.cnt
  have hW0 := WaI.zero hv hp.u16
  have hend := fun i => waR_end (p := p) (A := a) (B := b) (i := i)
  have hsuc := fun i => wS_succ (p := p) (A := a) (B := b) (i := i)
  have hz : wS p a b 0 = (p, []) := by rw [wS]
  have h200 := opnN_le hv
  have hord := fun w hSA => ordered_any a ga 0 capa w hSA (by omega) hra
  have hol := ordL_len a
  have hom := fun s hs => hra s ((ordL_mem hra s).1 hs)
  have hfar := fun q c w hq hSB => far_any q c b gb 0 capb w hq hrb (by omega) hSB
  generalize waR p a b = R at *
  generalize hWS : wS p a b = WS at *
  have hz1 : (WS 0).1 = p := by rw [hz]
  have hz2 : (WS 0).2 = [] := by rw [hz]
  refine enter3 Try.func14 rfl rfl rfl (Own.start w) ?_
  repeat' (first
    | (refine s_g ?_; first
      | (refine s_gd rfl ?_; first | refine s_gd1 rfl rfl zTr ?_ | refine s_gd0 rfl rfl rfl zTr ?_ | refine s_gd00 rfl rfl zTr ?_ | refine s_gp1 rfl rfl rfl (fun hc => ?_) (fun hc => ?_) | refine s_gp0 rfl rfl rfl (fun hc => ?_) (fun hc => ?_) | refine s_gnp1 rfl rfl rfl (fun hc => ?_) (fun hc => ?_) | refine s_gnp0 rfl rfl rfl (fun hc => ?_) (fun hc => ?_) | refine s_gb1 rfl rfl rfl (fun hc => ?_) (fun hc => ?_) | refine s_gb0 rfl rfl rfl (fun hc => ?_) (fun hc => ?_) | refine s_gnb1 rfl rfl rfl (fun hc => ?_) (fun hc => ?_) | refine s_gnb0 rfl rfl rfl (fun hc => ?_) (fun hc => ?_))
      | (refine s_k 0 rfl ?_; refine s_val rfl rfl rfl (r_move rfl rfl) ?_)
      | (refine s_k 8 rfl ?_; first | (refine' s_val rfl rfl rfl (r_ldv rfl rfl ?qm ?qv) ?_; (case qm => (exact zMm)); (case qv => (first | exact ldvL tb rfl rfl | exact ldv1 tb rfl (by assumption) | exact ldvW tb rfl rfl | exact ldvW tb rfl (by assumption) | exact ldvW tb rfl (Pv.size (by assumption)) | exact ldvN tb rfl ext2_0 rfl | exact ldvN tb rfl ext2_2 rfl))) | (refine' s_val rfl rfl rfl (r_ldo rfl rfl ?qw (by simp) ?qv) ?_; (case qw => assumption); (case qv => (first | exact ldvL tb rfl rfl | exact ldv1 tb rfl (by assumption) | exact ldvW tb rfl rfl | exact ldvW tb rfl (by assumption) | exact ldvW tb rfl (Pv.size (by assumption)) | exact ldvN tb rfl ext2_0 rfl | exact ldvN tb rfl ext2_2 rfl))))
      | (refine s_k 1 rfl ?_; refine s_val rfl rfl rfl (r_assign rfl rfl) ?_)
      | (refine s_k 13 rfl ?_; first | refine s_val rfl rfl rfl (r_lss rfl rfl rfl) ?_ | refine s_val rfl rfl rfl (r_neq rfl rfl rfl) ?_ | refine s_val rfl rfl rfl (r_add rfl rfl rfl (wrap_in (by simp only [lo, hi]; omega))) ?_ | refine s_val rfl rfl rfl (r_geq rfl rfl rfl) ?_)
      | (refine s_k 35 rfl ?_; (refine s_call Try.func39 (by kernel_rfl) rfl rfl rfl rfl rfl rfl (fun w hL => hpt w (Kn.old hL hga (by simp)) (Kn.old hL hgb (by simp))) ?_))
      | (refine s_k 2 rfl ?_; first | refine s_val rfl rfl rfl (r_pick1 rfl rfl zTr rfl) ?_ | refine s_val rfl rfl rfl (r_pick0 rfl rfl zTr rfl) ?_)
      | (refine s_k 25 rfl ?_; first | refine s_val rfl rfl rfl (r_ixN tb rfl rfl rfl rfl (by omega)) ?_ | refine s_val rfl rfl rfl (r_ixA tb rfl rfl rfl rfl (by omega) (by omega)) ?_ | refine s_val rfl rfl rfl (r_ixO tb rfl rfl rfl rfl (by omega)) ?_)
      | (refine s_k 4 rfl ?_; first | refine s_boxA rfl rfl rfl rfl rfl fun blk => ?_ | refine s_box1 rfl rfl rfl rfl rfl rfl fun blk => ?_)
      | (refine s_k 9 rfl ?_; (first | refine s_st1 tb rfl rfl rfl rfl rfl rfl rfl rfl ?_ | refine s_stA tb rfl rfl rfl rfl (by first | rfl | assumption | (apply Pv.size; assumption)) rfl rfl ?_); (first | refine' st0 ?qs ?_ | refine' st1 ?qs ?_ | refine' st2 ?qs ?_ | refine' st3 ?qs ?_ | refine' st4 ?qs ?_ | refine' st5 ?qs ?_ | refine' st6 ?qs ?_ | refine' st7 ?qs ?_ | refine' st8 ?qs ?_ | refine' st9 ?qs ?_ | refine' st10 ?qs ?_ | refine' st11 ?qs ?_); (case qs => (first | exact zSet)))
      | (refine s_k 36 rfl ?_; refine s_val rfl rfl rfl (r_len tb rfl rfl rfl) ?_)
      | (refine s_k 6 rfl ?_; refine s_bsl rfl rfl (fun w => slSS0 w) rfl rfl rfl fun blk => ?_)
      | refine s_nil ?_)
    | (refine c_g ?_; first | refine c_seq ?_ | refine c_region ?_ | (refine c_gc ?_; first | refine c_cond1 rfl zTr ?_ | refine c_cond0 rfl zTr ?_ | refine z_condd1 rfl ?_ | refine z_condd0 rfl ?_ | refine z_conddn1 rfl ?_ | refine z_conddn0 rfl ?_ | refine c_condd rfl (fun hc => ?_) (fun hc => ?_) | refine c_conddn rfl (fun hc => ?_) (fun hc => ?_) | refine c_condn rfl (fun hc => ?_) (fun hc => ?_) | refine c_cond rfl (fun hc => ?_) (fun hc => ?_)) | refine c_block ?_ | refine c_skip ?_ | refine c_exit ?_ | refine c_ret ?_)
    | (refine e_g ?_; first | refine e_then ?_ | refine e_blkn ?_ | refine e_thenx ?_ | refine e_thenr ?_ | refine e_blkr ?_ | refine e_blkx ?_ | refine e_blky rfl ?_))
  rename_i b3
  refine c_loop (ι := Nat × Nat × Nat × Array Value × List (Nat × Nat × Array Value) × Array Value) (fun i => opnN (WS i.1).1) (fun i => WaI p (WS i.1).1 (WS i.1).2 i.1 ∧ Ap 1 (WS i.1).2.length i.2.2.1 i.2.2.2.1 (itV (WS i.1).2 i.2.2.2.2.1) ∧ ItOk (WS i.1).2 i.2.2.2.2.1 ∧ Pv (WS i.1).1 i.2.2.2.2.2) (fun i => [(9, .slice (some ⟨i.2.1, 0, none⟩) (WS i.1).2.length i.2.2.1), (3, .pointer (some ⟨b3, 0, none⟩)), (1, .slice (some ⟨ga, 0, none⟩) a.length capa), (2, .slice (some ⟨gb, 0, none⟩) b.length capb)]) (fun i => (i.2.1, 36, i.2.2.2.1) :: (b3, 32, i.2.2.2.2.2) :: itR i.2.2.2.2.1) (0, blk, 0, #[], [], cs) ⟨by simp only [hz1, hz2]; exact hW0, by simp only [hz2]; exact Ap.nil 1, by simp only [hz2]; exact ItOk.nil, by simp only [hz1]; exact hp⟩ ?hs rfl ?_
  case hs => (repeat' (first | exact sub_nil | refine sub_cons rfl ?_ | refine sub_cons' rfl (by simp [hz1, hz2]) ?_))
  rintro ⟨i, go, cap, cur, items, cq⟩ ⟨hWI, hA, hI, hpq⟩
  simp only at hWI hA hI hpq ⊢
  have hin' : i ≤ opnN p := by have := hWI.n; omega
  have hlenS := hWI.len
  have hsq := hpq.size
  have hR := hend i
  have hs1 := hsuc i
  have hfr := fun w hSB => hfar (WS i).1 cq w hpq hSB
  have hD := stepsP_val (WS i).1 hrb
  have hT : GI .i16 1 (stepsP (WS i).1 b).1 (giA .i16 1 (stepsP (WS i).1 b).1) := giA_ok .i16 1 _
  have hbs := impl_best (q := (WS i).1) (fun c hc => hWI.cel (hca c hc)) (fun c hc => hWI.cel (hcb c hc))
  have hbc := fun j s hs => bestL_cases (D := (stepsP (WS i).1 b).1) (l := ordL a) (j := j) (s := s) hs
  have hb0 : bestL (stepsP (WS i).1 b).1 ((ordL a).take 0) = (⟨0, 0⟩, -1) := by unfold bestL; rfl
  have hbz : bestL (stepsP (WS i).1 b).1 ((ordL a).take (ordL a).length) = bestL (stepsP (WS i).1 b).1 (ordL a) := by rw [List.take_length]
  have hway := fun w gt hg0 hs hk => way_any (WS i).1 cq b (bestL (stepsP (WS i).1 b).1 (ordL a)).1 (bestL (stepsP (WS i).1 b).1 (ordL a)).2.toNat _ 77 gt w hpq (fun c hc => hWI.cel (hcb c hc)) hT hg0 hs hk
  generalize hLO : ordL a = LO at *
  generalize hTB : giA .i16 1 (stepsP (WS i).1 b).1 = tab at *
  generalize hDD : (stepsP (WS i).1 b).1 = D at *
  generalize hBL : bestL D = BL at *
  have hts := hT.size
  repeat' (first
    | (refine s_g ?_; first
      | (refine s_gd rfl ?_; first | refine s_gd1 rfl rfl zTr ?_ | refine s_gd0 rfl rfl rfl zTr ?_ | refine s_gd00 rfl rfl zTr ?_ | refine s_gp1 rfl rfl rfl (fun hc => ?_) (fun hc => ?_) | refine s_gp0 rfl rfl rfl (fun hc => ?_) (fun hc => ?_) | refine s_gnp1 rfl rfl rfl (fun hc => ?_) (fun hc => ?_) | refine s_gnp0 rfl rfl rfl (fun hc => ?_) (fun hc => ?_) | refine s_gb1 rfl rfl rfl (fun hc => ?_) (fun hc => ?_) | refine s_gb0 rfl rfl rfl (fun hc => ?_) (fun hc => ?_) | refine s_gnb1 rfl rfl rfl (fun hc => ?_) (fun hc => ?_) | refine s_gnb0 rfl rfl rfl (fun hc => ?_) (fun hc => ?_))
      | (refine s_k 0 rfl ?_; refine s_val rfl rfl rfl (r_move rfl rfl) ?_)
      | (refine s_k 8 rfl ?_; first | (refine' s_val rfl rfl rfl (r_ldv rfl rfl ?qm ?qv) ?_; (case qm => (exact zMm)); (case qv => (first | exact ldvL tb rfl rfl | exact ldv1 tb rfl (by assumption) | exact ldvW tb rfl rfl | exact ldvW tb rfl (by assumption) | exact ldvW tb rfl (Pv.size (by assumption)) | exact ldvN tb rfl ext2_0 rfl | exact ldvN tb rfl ext2_2 rfl))) | (refine' s_val rfl rfl rfl (r_ldo rfl rfl ?qw (by simp) ?qv) ?_; (case qw => assumption); (case qv => (first | exact ldvL tb rfl rfl | exact ldv1 tb rfl (by assumption) | exact ldvW tb rfl rfl | exact ldvW tb rfl (by assumption) | exact ldvW tb rfl (Pv.size (by assumption)) | exact ldvN tb rfl ext2_0 rfl | exact ldvN tb rfl ext2_2 rfl))))
      | (refine s_k 1 rfl ?_; refine s_val rfl rfl rfl (r_assign rfl rfl) ?_)
      | (refine s_k 13 rfl ?_; first | refine s_val rfl rfl rfl (r_lss rfl rfl rfl) ?_ | refine s_val rfl rfl rfl (r_neq rfl rfl rfl) ?_ | refine s_val rfl rfl rfl (r_add rfl rfl rfl (wrap_in (by simp only [lo, hi]; omega))) ?_ | refine s_val rfl rfl rfl (r_geq rfl rfl rfl) ?_)
      | (refine s_k 35 rfl ?_; first | (refine s_call Try.func40 (by kernel_rfl) rfl rfl rfl rfl rfl rfl (fun w hL => hfr w (hSB.at_ hL)) ?_) | (refine s_callN Try.func41 (by kernel_rfl) rfl rfl rfl rfl rfl rfl (fun w hL => hord w (hSA.at_ hL)) fun gv kv capv curv hAv => ?_; obtain rfl : kv = LO.length := hAv.cnt))
      | (refine s_k 2 rfl ?_; first | refine s_val rfl rfl rfl (r_pick1 rfl rfl zTr rfl) ?_ | refine s_val rfl rfl rfl (r_pick0 rfl rfl zTr rfl) ?_)
      | (refine s_k 25 rfl ?_; first | refine s_val rfl rfl rfl (r_ixN tb rfl rfl rfl rfl (by omega)) ?_ | refine s_val rfl rfl rfl (r_ixA tb rfl rfl rfl rfl (by omega) (by omega)) ?_ | refine s_val rfl rfl rfl (r_ixO tb rfl rfl rfl rfl (by omega)) ?_)
      | (refine s_k 4 rfl ?_; first | refine s_boxA rfl rfl rfl rfl rfl fun blk => ?_ | refine s_box1 rfl rfl rfl rfl rfl rfl fun blk => ?_)
      | (refine s_k 9 rfl ?_; (first | refine s_st1 tb rfl rfl rfl rfl rfl rfl rfl rfl ?_ | refine s_stA tb rfl rfl rfl rfl (by first | rfl | assumption | (apply Pv.size; assumption)) rfl rfl ?_); (first | refine' st0 ?qs ?_ | refine' st1 ?qs ?_ | refine' st2 ?qs ?_ | refine' st3 ?qs ?_ | refine' st4 ?qs ?_ | refine' st5 ?qs ?_ | refine' st6 ?qs ?_ | refine' st7 ?qs ?_ | refine' st8 ?qs ?_ | refine' st9 ?qs ?_ | refine' st10 ?qs ?_ | refine' st11 ?qs ?_); (case qs => (first | exact setG hT zSt_ok.size | exact set_whole (vs := #[.int .i8 0, .int .i8 0]) rfl (by simp [Value.oneCell']) | exact zSet)))
      | (refine s_k 3 rfl ?_; first | refine s_allocA (t := 77) rfl zStepsV rfl rfl rfl fun blk => ?_ | refine s_allocA (t := 52) rfl zImplSpot rfl rfl rfl fun blk => ?_)
      | (refine s_k 36 rfl ?_; refine s_val rfl rfl rfl (r_len tb rfl rfl rfl) ?_)
      | (refine s_k 5 rfl ?_; refine s_val rfl rfl rfl (r_build rfl rfl (fun w => bSpot0 w)) ?_)
      | refine s_nil ?_)
    | (refine c_g ?_; first | refine c_seq ?_ | refine c_region ?_ | (refine c_gc ?_; first | refine c_cond1 rfl zTr ?_ | refine c_cond0 rfl zTr ?_ | refine z_condd1 rfl ?_ | refine z_condd0 rfl ?_ | refine z_conddn1 rfl ?_ | refine z_conddn0 rfl ?_ | refine c_condd rfl (fun hc => ?_) (fun hc => ?_) | refine c_conddn rfl (fun hc => ?_) (fun hc => ?_) | refine c_condn rfl (fun hc => ?_) (fun hc => ?_) | refine c_cond rfl (fun hc => ?_) (fun hc => ?_)) | refine c_block ?_ | refine c_skip ?_ | refine c_exit ?_ | refine c_ret ?_)
    | (refine e_g ?_; first | refine e_then ?_ | refine e_blkn ?_ | refine e_thenx ?_ | refine e_thenr ?_ | refine e_blkr ?_ | refine e_blkx ?_ | refine e_blky rfl ?_))
  rename_i b10
  refine c_loop (ι := Nat) (fun j => LO.length - j) (fun j => j ≤ LO.length ∧ -1 ≤ (BL (LO.take j)).2 ∧ (BL (LO.take j)).2 ≤ 100) (fun j => [(32, .int .i64 (j : Int)), (31, .int .i64 (LO.length : Int)), (30, .slice (some ⟨gv, 0, none⟩) LO.length capv), (12, .int .i64 (BL (LO.take j)).2), (11, .pointer (some ⟨blk, 0, none⟩)), (10, .pointer (some ⟨b10, 0, none⟩)), (9, .slice (some ⟨go, 0, none⟩) (WS i).2.length cap), (3, .pointer (some ⟨b3, 0, none⟩)), (1, .slice (some ⟨ga, 0, none⟩) a.length capa), (2, .slice (some ⟨gb, 0, none⟩) b.length capb)]) (fun j => (gv, 52, curv) :: (blk, 52, #[.int .i8 (BL (LO.take j)).1.x, .int .i8 (BL (LO.take j)).1.y]) :: (b10, 77, tab) :: (go, 36, cur) :: (b3, 32, cq) :: itR items) 0 ⟨by simp, by rw [hb0]; decide, by rw [hb0]; decide⟩ ?hs (by rw [hb0]) ?_
  case hs => (repeat' (first | exact sub_nil | refine sub_cons rfl ?_ | refine sub_cons' rfl (by rw [hb0]) ?_))
  rintro j ⟨hj, hm1, hm2⟩
  by_cases hltj : j < LO.length
  · have hx : LO[j]? = some LO[j] := List.getElem?_eq_getElem hltj
    have hxR := hom _ (List.getElem_mem hltj)
    have hst := hbc j _ hx
    have hsp := hAv.spot hx
    have hnb := fun h => bestS_no (D := D) (q := BL (LO.take j)) (s := LO[j]'hltj) h
    have hye := fun h => bestS_yes (D := D) (q := BL (LO.take j)) (s := LO[j]'hltj) h
    have hat := fun w hg => farAt_any D tab 77 b10 LO[j].x LO[j].y w hT hD hg ⟨hxR.1, hxR.2.1⟩ hxR.2.2
    have hdv := hD (ci LO[j])
    generalize LO[j] = s at *
    have e1 : (⟨s.x, s.y⟩ : Sp) = s := rfl
    rw [e1] at hat
    generalize D (ci s) = dv at *
    generalize hB0 : BL (LO.take j) = bq at *
    obtain ⟨bs, bm⟩ := bq
    simp only at hm1 hm2 hnb hye ⊢
    by_cases hd0 : 0 ≤ dv - 1
    · by_cases hbm : bm < 0
      · rw [hye ⟨hd0, .inl hbm⟩] at hst
        repeat' (first
          | (refine s_g ?_; first
      | (refine s_gd rfl ?_; first | refine s_gd1 rfl rfl zTr ?_ | refine s_gd0 rfl rfl rfl zTr ?_ | refine s_gd00 rfl rfl zTr ?_ | refine s_gdu rfl rfl rfl ?_ | refine s_gp1 rfl rfl rfl (fun hc => ?_) (fun hc => ?_) | refine s_gp0 rfl rfl rfl (fun hc => ?_) (fun hc => ?_) | refine s_gnp1 rfl rfl rfl (fun hc => ?_) (fun hc => ?_) | refine s_gnp0 rfl rfl rfl (fun hc => ?_) (fun hc => ?_) | refine s_gb1 rfl rfl rfl (fun hc => ?_) (fun hc => ?_) | refine s_gb0 rfl rfl rfl (fun hc => ?_) (fun hc => ?_) | refine s_gnb1 rfl rfl rfl (fun hc => ?_) (fun hc => ?_) | refine s_gnb0 rfl rfl rfl (fun hc => ?_) (fun hc => ?_))
      | (refine s_k 0 rfl ?_; refine s_val rfl rfl rfl (r_move rfl rfl) ?_)
      | (refine s_k 8 rfl ?_; first | refine s_val rfl rfl rfl (r_ldN tb rfl rfl m0 rfl hsp.1 hsp.2) ?_ | (refine' s_val rfl rfl rfl (r_ldv rfl rfl ?qm ?qv) ?_; (case qm => (exact zMm)); (case qv => (first | exact ldvL tb rfl rfl | exact ldv1 tb rfl (by assumption) | exact ldvW tb rfl rfl | exact ldvW tb rfl (by assumption) | exact ldvW tb rfl (Pv.size (by assumption)) | exact ldvN tb rfl ext2_0 rfl | exact ldvN tb rfl ext2_2 rfl))) | (refine' s_val rfl rfl rfl (r_ldo rfl rfl ?qw (by simp) ?qv) ?_; (case qw => assumption); (case qv => (first | exact ldvL tb rfl rfl | exact ldv1 tb rfl (by assumption) | exact ldvW tb rfl rfl | exact ldvW tb rfl (by assumption) | exact ldvW tb rfl (Pv.size (by assumption)) | exact ldvN tb rfl ext2_0 rfl | exact ldvN tb rfl ext2_2 rfl))))
      | (refine s_k 1 rfl ?_; refine s_val rfl rfl rfl (r_assign rfl rfl) ?_)
      | (refine s_k 13 rfl ?_; first | refine s_val rfl rfl rfl (r_lss rfl rfl rfl) ?_ | refine s_val rfl rfl rfl (r_neq rfl rfl rfl) ?_ | refine s_val rfl rfl rfl (r_add rfl rfl rfl (wrap_in (by simp only [lo, hi]; omega))) ?_ | refine s_val rfl rfl rfl (r_geq rfl rfl rfl) ?_)
      | (refine s_k 35 rfl ?_; (refine s_call Try.func42 (by kernel_rfl) rfl rfl rfl rfl rfl rfl (fun w hL => hat w (hL.at_ m3)) ?_))
      | (refine s_k 2 rfl ?_; first | refine s_val rfl rfl rfl (r_pick1 rfl rfl zTr rfl) ?_ | refine s_val rfl rfl rfl (r_pick0 rfl rfl zTr rfl) ?_)
      | (refine s_k 25 rfl ?_; first | refine s_val rfl rfl rfl (r_ixO tb rfl rfl rfl rfl hltj) ?_ | refine s_val rfl rfl rfl (r_ixN tb rfl rfl rfl rfl (by omega)) ?_ | refine s_val rfl rfl rfl (r_ixA tb rfl rfl rfl rfl (by omega) (by omega)) ?_ | refine s_val rfl rfl rfl (r_ixO tb rfl rfl rfl rfl (by omega)) ?_)
      | (refine s_k 4 rfl ?_; first | refine s_boxA rfl rfl rfl rfl rfl fun blk => ?_ | refine s_box1 rfl rfl rfl rfl rfl rfl fun blk => ?_)
      | (refine s_k 9 rfl ?_; (first | refine s_st1 tb rfl rfl rfl rfl rfl rfl rfl rfl ?_ | refine s_stA tb rfl rfl rfl rfl (by first | rfl | assumption | (apply Pv.size; assumption)) rfl rfl ?_); (first | refine' st0 ?qs ?_ | refine' st1 ?qs ?_ | refine' st2 ?qs ?_ | refine' st3 ?qs ?_ | refine' st4 ?qs ?_ | refine' st5 ?qs ?_ | refine' st6 ?qs ?_ | refine' st7 ?qs ?_ | refine' st8 ?qs ?_ | refine' st9 ?qs ?_ | refine' st10 ?qs ?_ | refine' st11 ?qs ?_); (case qs => (first | exact set_whole (vs := #[.int .i8 s.x, .int .i8 s.y]) rfl (by simp [Value.oneCell']) | exact zSet)))
      | (refine s_k 3 rfl ?_; refine s_allocA (t := 52) rfl zImplSpot rfl rfl rfl fun blk => ?_)
      | (refine s_k 36 rfl ?_; refine s_val rfl rfl rfl (r_len tb rfl rfl rfl) ?_)
      | refine s_nil ?_)
          | (refine c_g ?_; first | refine c_seq ?_ | refine c_region ?_ | (refine c_gc ?_; first | refine c_cond1 rfl zTr ?_ | refine c_cond0 rfl zTr ?_ | refine z_condd1 rfl ?_ | refine z_condd0 rfl ?_ | refine z_conddn1 rfl ?_ | refine z_conddn0 rfl ?_ | refine c_condd rfl (fun hc => ?_) (fun hc => ?_) | refine c_conddn rfl (fun hc => ?_) (fun hc => ?_) | refine c_condn rfl (fun hc => ?_) (fun hc => ?_) | refine c_cond rfl (fun hc => ?_) (fun hc => ?_)) | refine c_block ?_ | refine c_skip ?_ | refine c_exit ?_ | refine c_ret ?_)
          | (refine e_g ?_; first | refine e_then ?_ | refine e_blkn ?_ | refine e_thenx ?_ | refine e_thenr ?_ | refine e_blkr ?_ | refine e_blkx ?_ | refine e_blky rfl ?_)
          | refine e_drop0 (e_round (j + 1) (by omega) ⟨by omega, by rw [hst]; simp only; omega, by rw [hst]; simp only; omega⟩ ?_ (by rw [hst])))
        all_goals (repeat' (first | exact sub_nil | refine sub_cons rfl ?_ | refine sub_cons' rfl (by rw [hst]) ?_))
      · by_cases hlt : dv - 1 < bm
        · rw [hye ⟨hd0, .inr hlt⟩] at hst
          repeat' (first
            | (refine s_g ?_; first
      | (refine s_gd rfl ?_; first | refine s_gd1 rfl rfl zTr ?_ | refine s_gd0 rfl rfl rfl zTr ?_ | refine s_gd00 rfl rfl zTr ?_ | refine s_gdu rfl rfl rfl ?_ | refine s_gp1 rfl rfl rfl (fun hc => ?_) (fun hc => ?_) | refine s_gp0 rfl rfl rfl (fun hc => ?_) (fun hc => ?_) | refine s_gnp1 rfl rfl rfl (fun hc => ?_) (fun hc => ?_) | refine s_gnp0 rfl rfl rfl (fun hc => ?_) (fun hc => ?_) | refine s_gb1 rfl rfl rfl (fun hc => ?_) (fun hc => ?_) | refine s_gb0 rfl rfl rfl (fun hc => ?_) (fun hc => ?_) | refine s_gnb1 rfl rfl rfl (fun hc => ?_) (fun hc => ?_) | refine s_gnb0 rfl rfl rfl (fun hc => ?_) (fun hc => ?_))
      | (refine s_k 0 rfl ?_; refine s_val rfl rfl rfl (r_move rfl rfl) ?_)
      | (refine s_k 8 rfl ?_; first | refine s_val rfl rfl rfl (r_ldN tb rfl rfl m0 rfl hsp.1 hsp.2) ?_ | (refine' s_val rfl rfl rfl (r_ldv rfl rfl ?qm ?qv) ?_; (case qm => (exact zMm)); (case qv => (first | exact ldvL tb rfl rfl | exact ldv1 tb rfl (by assumption) | exact ldvW tb rfl rfl | exact ldvW tb rfl (by assumption) | exact ldvW tb rfl (Pv.size (by assumption)) | exact ldvN tb rfl ext2_0 rfl | exact ldvN tb rfl ext2_2 rfl))) | (refine' s_val rfl rfl rfl (r_ldo rfl rfl ?qw (by simp) ?qv) ?_; (case qw => assumption); (case qv => (first | exact ldvL tb rfl rfl | exact ldv1 tb rfl (by assumption) | exact ldvW tb rfl rfl | exact ldvW tb rfl (by assumption) | exact ldvW tb rfl (Pv.size (by assumption)) | exact ldvN tb rfl ext2_0 rfl | exact ldvN tb rfl ext2_2 rfl))))
      | (refine s_k 1 rfl ?_; refine s_val rfl rfl rfl (r_assign rfl rfl) ?_)
      | (refine s_k 13 rfl ?_; first | refine s_val rfl rfl rfl (r_lss rfl rfl rfl) ?_ | refine s_val rfl rfl rfl (r_neq rfl rfl rfl) ?_ | refine s_val rfl rfl rfl (r_add rfl rfl rfl (wrap_in (by simp only [lo, hi]; omega))) ?_ | refine s_val rfl rfl rfl (r_geq rfl rfl rfl) ?_)
      | (refine s_k 35 rfl ?_; (refine s_call Try.func42 (by kernel_rfl) rfl rfl rfl rfl rfl rfl (fun w hL => hat w (hL.at_ m3)) ?_))
      | (refine s_k 2 rfl ?_; first | refine s_val rfl rfl rfl (r_pick1 rfl rfl zTr rfl) ?_ | refine s_val rfl rfl rfl (r_pick0 rfl rfl zTr rfl) ?_)
      | (refine s_k 25 rfl ?_; first | refine s_val rfl rfl rfl (r_ixO tb rfl rfl rfl rfl hltj) ?_ | refine s_val rfl rfl rfl (r_ixN tb rfl rfl rfl rfl (by omega)) ?_ | refine s_val rfl rfl rfl (r_ixA tb rfl rfl rfl rfl (by omega) (by omega)) ?_ | refine s_val rfl rfl rfl (r_ixO tb rfl rfl rfl rfl (by omega)) ?_)
      | (refine s_k 4 rfl ?_; first | refine s_boxA rfl rfl rfl rfl rfl fun blk => ?_ | refine s_box1 rfl rfl rfl rfl rfl rfl fun blk => ?_)
      | (refine s_k 9 rfl ?_; (first | refine s_st1 tb rfl rfl rfl rfl rfl rfl rfl rfl ?_ | refine s_stA tb rfl rfl rfl rfl (by first | rfl | assumption | (apply Pv.size; assumption)) rfl rfl ?_); (first | refine' st0 ?qs ?_ | refine' st1 ?qs ?_ | refine' st2 ?qs ?_ | refine' st3 ?qs ?_ | refine' st4 ?qs ?_ | refine' st5 ?qs ?_ | refine' st6 ?qs ?_ | refine' st7 ?qs ?_ | refine' st8 ?qs ?_ | refine' st9 ?qs ?_ | refine' st10 ?qs ?_ | refine' st11 ?qs ?_); (case qs => (first | exact set_whole (vs := #[.int .i8 s.x, .int .i8 s.y]) rfl (by simp [Value.oneCell']) | exact zSet)))
      | (refine s_k 3 rfl ?_; refine s_allocA (t := 52) rfl zImplSpot rfl rfl rfl fun blk => ?_)
      | (refine s_k 36 rfl ?_; refine s_val rfl rfl rfl (r_len tb rfl rfl rfl) ?_)
      | refine s_nil ?_)
            | (refine c_g ?_; first | refine c_seq ?_ | refine c_region ?_ | (refine c_gc ?_; first | refine c_cond1 rfl zTr ?_ | refine c_cond0 rfl zTr ?_ | refine z_condd1 rfl ?_ | refine z_condd0 rfl ?_ | refine z_conddn1 rfl ?_ | refine z_conddn0 rfl ?_ | refine c_condd rfl (fun hc => ?_) (fun hc => ?_) | refine c_conddn rfl (fun hc => ?_) (fun hc => ?_) | refine c_condn rfl (fun hc => ?_) (fun hc => ?_) | refine c_cond rfl (fun hc => ?_) (fun hc => ?_)) | refine c_block ?_ | refine c_skip ?_ | refine c_exit ?_ | refine c_ret ?_)
            | (refine e_g ?_; first | refine e_then ?_ | refine e_blkn ?_ | refine e_thenx ?_ | refine e_thenr ?_ | refine e_blkr ?_ | refine e_blkx ?_ | refine e_blky rfl ?_)
            | refine e_drop0 (e_round (j + 1) (by omega) ⟨by omega, by rw [hst]; simp only; omega, by rw [hst]; simp only; omega⟩ ?_ (by rw [hst])))
          all_goals (repeat' (first | exact sub_nil | refine sub_cons rfl ?_ | refine sub_cons' rfl (by rw [hst]) ?_))
        · rw [hnb (by omega)] at hst
          repeat' (first
            | (refine s_g ?_; first
      | (refine s_gd rfl ?_; first | refine s_gd1 rfl rfl zTr ?_ | refine s_gd0 rfl rfl rfl zTr ?_ | refine s_gd00 rfl rfl zTr ?_ | refine s_gdu rfl rfl rfl ?_ | refine s_gp1 rfl rfl rfl (fun hc => ?_) (fun hc => ?_) | refine s_gp0 rfl rfl rfl (fun hc => ?_) (fun hc => ?_) | refine s_gnp1 rfl rfl rfl (fun hc => ?_) (fun hc => ?_) | refine s_gnp0 rfl rfl rfl (fun hc => ?_) (fun hc => ?_) | refine s_gb1 rfl rfl rfl (fun hc => ?_) (fun hc => ?_) | refine s_gb0 rfl rfl rfl (fun hc => ?_) (fun hc => ?_) | refine s_gnb1 rfl rfl rfl (fun hc => ?_) (fun hc => ?_) | refine s_gnb0 rfl rfl rfl (fun hc => ?_) (fun hc => ?_))
      | (refine s_k 0 rfl ?_; refine s_val rfl rfl rfl (r_move rfl rfl) ?_)
      | (refine s_k 8 rfl ?_; first | refine s_val rfl rfl rfl (r_ldN tb rfl rfl m0 rfl hsp.1 hsp.2) ?_ | (refine' s_val rfl rfl rfl (r_ldv rfl rfl ?qm ?qv) ?_; (case qm => (exact zMm)); (case qv => (first | exact ldvL tb rfl rfl | exact ldv1 tb rfl (by assumption) | exact ldvW tb rfl rfl | exact ldvW tb rfl (by assumption) | exact ldvW tb rfl (Pv.size (by assumption)) | exact ldvN tb rfl ext2_0 rfl | exact ldvN tb rfl ext2_2 rfl))) | (refine' s_val rfl rfl rfl (r_ldo rfl rfl ?qw (by simp) ?qv) ?_; (case qw => assumption); (case qv => (first | exact ldvL tb rfl rfl | exact ldv1 tb rfl (by assumption) | exact ldvW tb rfl rfl | exact ldvW tb rfl (by assumption) | exact ldvW tb rfl (Pv.size (by assumption)) | exact ldvN tb rfl ext2_0 rfl | exact ldvN tb rfl ext2_2 rfl))))
      | (refine s_k 1 rfl ?_; refine s_val rfl rfl rfl (r_assign rfl rfl) ?_)
      | (refine s_k 13 rfl ?_; first | refine s_val rfl rfl rfl (r_lss rfl rfl rfl) ?_ | refine s_val rfl rfl rfl (r_neq rfl rfl rfl) ?_ | refine s_val rfl rfl rfl (r_add rfl rfl rfl (wrap_in (by simp only [lo, hi]; omega))) ?_ | refine s_val rfl rfl rfl (r_geq rfl rfl rfl) ?_)
      | (refine s_k 35 rfl ?_; (refine s_call Try.func42 (by kernel_rfl) rfl rfl rfl rfl rfl rfl (fun w hL => hat w (hL.at_ m3)) ?_))
      | (refine s_k 2 rfl ?_; first | refine s_val rfl rfl rfl (r_pick1 rfl rfl zTr rfl) ?_ | refine s_val rfl rfl rfl (r_pick0 rfl rfl zTr rfl) ?_)
      | (refine s_k 25 rfl ?_; first | refine s_val rfl rfl rfl (r_ixO tb rfl rfl rfl rfl hltj) ?_ | refine s_val rfl rfl rfl (r_ixN tb rfl rfl rfl rfl (by omega)) ?_ | refine s_val rfl rfl rfl (r_ixA tb rfl rfl rfl rfl (by omega) (by omega)) ?_ | refine s_val rfl rfl rfl (r_ixO tb rfl rfl rfl rfl (by omega)) ?_)
      | (refine s_k 4 rfl ?_; first | refine s_boxA rfl rfl rfl rfl rfl fun blk => ?_ | refine s_box1 rfl rfl rfl rfl rfl rfl fun blk => ?_)
      | (refine s_k 9 rfl ?_; (first | refine s_st1 tb rfl rfl rfl rfl rfl rfl rfl rfl ?_ | refine s_stA tb rfl rfl rfl rfl (by first | rfl | assumption | (apply Pv.size; assumption)) rfl rfl ?_); (first | refine' st0 ?qs ?_ | refine' st1 ?qs ?_ | refine' st2 ?qs ?_ | refine' st3 ?qs ?_ | refine' st4 ?qs ?_ | refine' st5 ?qs ?_ | refine' st6 ?qs ?_ | refine' st7 ?qs ?_ | refine' st8 ?qs ?_ | refine' st9 ?qs ?_ | refine' st10 ?qs ?_ | refine' st11 ?qs ?_); (case qs => (first | exact set_whole (vs := #[.int .i8 s.x, .int .i8 s.y]) rfl (by simp [Value.oneCell']) | exact zSet)))
      | (refine s_k 3 rfl ?_; refine s_allocA (t := 52) rfl zImplSpot rfl rfl rfl fun blk => ?_)
      | (refine s_k 36 rfl ?_; refine s_val rfl rfl rfl (r_len tb rfl rfl rfl) ?_)
      | refine s_nil ?_)
            | (refine c_g ?_; first | refine c_seq ?_ | refine c_region ?_ | (refine c_gc ?_; first | refine c_cond1 rfl zTr ?_ | refine c_cond0 rfl zTr ?_ | refine z_condd1 rfl ?_ | refine z_condd0 rfl ?_ | refine z_conddn1 rfl ?_ | refine z_conddn0 rfl ?_ | refine c_condd rfl (fun hc => ?_) (fun hc => ?_) | refine c_conddn rfl (fun hc => ?_) (fun hc => ?_) | refine c_condn rfl (fun hc => ?_) (fun hc => ?_) | refine c_cond rfl (fun hc => ?_) (fun hc => ?_)) | refine c_block ?_ | refine c_skip ?_ | refine c_exit ?_ | refine c_ret ?_)
            | (refine e_g ?_; first | refine e_then ?_ | refine e_blkn ?_ | refine e_thenx ?_ | refine e_thenr ?_ | refine e_blkr ?_ | refine e_blkx ?_ | refine e_blky rfl ?_)
            | refine e_drop0 (e_round (j + 1) (by omega) ⟨by omega, by rw [hst]; exact hm1, by rw [hst]; exact hm2⟩ ?_ (by rw [hst])))
          all_goals (repeat' (first | exact sub_nil | refine sub_cons rfl ?_ | refine sub_cons' rfl (by rw [hst]) ?_))
    · rw [hnb (by omega)] at hst
      repeat' (first
        | (refine s_g ?_; first
      | (refine s_gd rfl ?_; first | refine s_gd1 rfl rfl zTr ?_ | refine s_gd0 rfl rfl rfl zTr ?_ | refine s_gd00 rfl rfl zTr ?_ | refine s_gdu rfl rfl rfl ?_ | refine s_gp1 rfl rfl rfl (fun hc => ?_) (fun hc => ?_) | refine s_gp0 rfl rfl rfl (fun hc => ?_) (fun hc => ?_) | refine s_gnp1 rfl rfl rfl (fun hc => ?_) (fun hc => ?_) | refine s_gnp0 rfl rfl rfl (fun hc => ?_) (fun hc => ?_) | refine s_gb1 rfl rfl rfl (fun hc => ?_) (fun hc => ?_) | refine s_gb0 rfl rfl rfl (fun hc => ?_) (fun hc => ?_) | refine s_gnb1 rfl rfl rfl (fun hc => ?_) (fun hc => ?_) | refine s_gnb0 rfl rfl rfl (fun hc => ?_) (fun hc => ?_))
      | (refine s_k 0 rfl ?_; refine s_val rfl rfl rfl (r_move rfl rfl) ?_)
      | (refine s_k 8 rfl ?_; first | refine s_val rfl rfl rfl (r_ldN tb rfl rfl m0 rfl hsp.1 hsp.2) ?_ | (refine' s_val rfl rfl rfl (r_ldv rfl rfl ?qm ?qv) ?_; (case qm => (exact zMm)); (case qv => (first | exact ldvL tb rfl rfl | exact ldv1 tb rfl (by assumption) | exact ldvW tb rfl rfl | exact ldvW tb rfl (by assumption) | exact ldvW tb rfl (Pv.size (by assumption)) | exact ldvN tb rfl ext2_0 rfl | exact ldvN tb rfl ext2_2 rfl))) | (refine' s_val rfl rfl rfl (r_ldo rfl rfl ?qw (by simp) ?qv) ?_; (case qw => assumption); (case qv => (first | exact ldvL tb rfl rfl | exact ldv1 tb rfl (by assumption) | exact ldvW tb rfl rfl | exact ldvW tb rfl (by assumption) | exact ldvW tb rfl (Pv.size (by assumption)) | exact ldvN tb rfl ext2_0 rfl | exact ldvN tb rfl ext2_2 rfl))))
      | (refine s_k 1 rfl ?_; refine s_val rfl rfl rfl (r_assign rfl rfl) ?_)
      | (refine s_k 13 rfl ?_; first | refine s_val rfl rfl rfl (r_lss rfl rfl rfl) ?_ | refine s_val rfl rfl rfl (r_neq rfl rfl rfl) ?_ | refine s_val rfl rfl rfl (r_add rfl rfl rfl (wrap_in (by simp only [lo, hi]; omega))) ?_ | refine s_val rfl rfl rfl (r_geq rfl rfl rfl) ?_)
      | (refine s_k 35 rfl ?_; (refine s_call Try.func42 (by kernel_rfl) rfl rfl rfl rfl rfl rfl (fun w hL => hat w (hL.at_ m3)) ?_))
      | (refine s_k 2 rfl ?_; first | refine s_val rfl rfl rfl (r_pick1 rfl rfl zTr rfl) ?_ | refine s_val rfl rfl rfl (r_pick0 rfl rfl zTr rfl) ?_)
      | (refine s_k 25 rfl ?_; first | refine s_val rfl rfl rfl (r_ixO tb rfl rfl rfl rfl hltj) ?_ | refine s_val rfl rfl rfl (r_ixN tb rfl rfl rfl rfl (by omega)) ?_ | refine s_val rfl rfl rfl (r_ixA tb rfl rfl rfl rfl (by omega) (by omega)) ?_ | refine s_val rfl rfl rfl (r_ixO tb rfl rfl rfl rfl (by omega)) ?_)
      | (refine s_k 4 rfl ?_; first | refine s_boxA rfl rfl rfl rfl rfl fun blk => ?_ | refine s_box1 rfl rfl rfl rfl rfl rfl fun blk => ?_)
      | (refine s_k 9 rfl ?_; (first | refine s_st1 tb rfl rfl rfl rfl rfl rfl rfl rfl ?_ | refine s_stA tb rfl rfl rfl rfl (by first | rfl | assumption | (apply Pv.size; assumption)) rfl rfl ?_); (first | refine' st0 ?qs ?_ | refine' st1 ?qs ?_ | refine' st2 ?qs ?_ | refine' st3 ?qs ?_ | refine' st4 ?qs ?_ | refine' st5 ?qs ?_ | refine' st6 ?qs ?_ | refine' st7 ?qs ?_ | refine' st8 ?qs ?_ | refine' st9 ?qs ?_ | refine' st10 ?qs ?_ | refine' st11 ?qs ?_); (case qs => (first | exact set_whole (vs := #[.int .i8 s.x, .int .i8 s.y]) rfl (by simp [Value.oneCell']) | exact zSet)))
      | (refine s_k 3 rfl ?_; refine s_allocA (t := 52) rfl zImplSpot rfl rfl rfl fun blk => ?_)
      | (refine s_k 36 rfl ?_; refine s_val rfl rfl rfl (r_len tb rfl rfl rfl) ?_)
      | refine s_nil ?_)
        | (refine c_g ?_; first | refine c_seq ?_ | refine c_region ?_ | (refine c_gc ?_; first | refine c_cond1 rfl zTr ?_ | refine c_cond0 rfl zTr ?_ | refine z_condd1 rfl ?_ | refine z_condd0 rfl ?_ | refine z_conddn1 rfl ?_ | refine z_conddn0 rfl ?_ | refine c_condd rfl (fun hc => ?_) (fun hc => ?_) | refine c_conddn rfl (fun hc => ?_) (fun hc => ?_) | refine c_condn rfl (fun hc => ?_) (fun hc => ?_) | refine c_cond rfl (fun hc => ?_) (fun hc => ?_)) | refine c_block ?_ | refine c_skip ?_ | refine c_exit ?_ | refine c_ret ?_)
        | (refine e_g ?_; first | refine e_then ?_ | refine e_blkn ?_ | refine e_thenx ?_ | refine e_thenr ?_ | refine e_blkr ?_ | refine e_blkx ?_ | refine e_blky rfl ?_)
        | refine e_drop0 (e_round (j + 1) (by omega) ⟨by omega, by rw [hst]; exact hm1, by rw [hst]; exact hm2⟩ ?_ (by rw [hst])))
      all_goals (repeat' (first | exact sub_nil | refine sub_cons rfl ?_ | refine sub_cons' rfl (by rw [hst]) ?_))
  · obtain rfl : j = LO.length := by omega
    rw [hbz] at hm1 hm2 ⊢
    rcases hbs with ⟨hneg, hV0⟩ | ⟨hnn, hcb1, hk, hVe, hVne⟩
    · rw [hR hV0 hin']
      generalize BL LO = bq at *
      repeat' (first
        | (refine s_g ?_; first
      | (refine s_gd rfl ?_; first | refine s_gd1 rfl rfl zTr ?_ | refine s_gd0 rfl rfl rfl zTr ?_ | refine s_gd00 rfl rfl zTr ?_ | refine s_gp1 rfl rfl rfl (fun hc => ?_) (fun hc => ?_) | refine s_gp0 rfl rfl rfl (fun hc => ?_) (fun hc => ?_) | refine s_gnp1 rfl rfl rfl (fun hc => ?_) (fun hc => ?_) | refine s_gnp0 rfl rfl rfl (fun hc => ?_) (fun hc => ?_) | refine s_gb1 rfl rfl rfl (fun hc => ?_) (fun hc => ?_) | refine s_gb0 rfl rfl rfl (fun hc => ?_) (fun hc => ?_) | refine s_gnb1 rfl rfl rfl (fun hc => ?_) (fun hc => ?_) | refine s_gnb0 rfl rfl rfl (fun hc => ?_) (fun hc => ?_))
      | (refine s_k 0 rfl ?_; refine s_val rfl rfl rfl (r_move rfl rfl) ?_)
      | (refine s_k 8 rfl ?_; first | (refine' s_val rfl rfl rfl (r_ldv rfl rfl ?qm ?qv) ?_; (case qm => (exact zMm)); (case qv => (first | exact ldvL tb rfl rfl | exact ldv1 tb rfl (by assumption) | exact ldvW tb rfl rfl | exact ldvW tb rfl (by assumption) | exact ldvW tb rfl (Pv.size (by assumption)) | exact ldvN tb rfl ext2_0 rfl | exact ldvN tb rfl ext2_2 rfl))) | (refine' s_val rfl rfl rfl (r_ldo rfl rfl ?qw (by simp) ?qv) ?_; (case qw => assumption); (case qv => (first | exact ldvL tb rfl rfl | exact ldv1 tb rfl (by assumption) | exact ldvW tb rfl rfl | exact ldvW tb rfl (by assumption) | exact ldvW tb rfl (Pv.size (by assumption)) | exact ldvN tb rfl ext2_0 rfl | exact ldvN tb rfl ext2_2 rfl))))
      | (refine s_k 1 rfl ?_; refine s_val rfl rfl rfl (r_assign rfl rfl) ?_)
      | (refine s_k 13 rfl ?_; first | refine s_val rfl rfl rfl (r_lss rfl rfl rfl) ?_ | refine s_val rfl rfl rfl (r_neq rfl rfl rfl) ?_ | refine s_val rfl rfl rfl (r_add rfl rfl rfl (wrap_in (by simp only [lo, hi]; omega))) ?_ | refine s_val rfl rfl rfl (r_geq rfl rfl rfl) ?_)
      | (refine s_k 2 rfl ?_; first | refine s_val rfl rfl rfl (r_pick1 rfl rfl zTr rfl) ?_ | refine s_val rfl rfl rfl (r_pick0 rfl rfl zTr rfl) ?_)
      | (refine s_k 25 rfl ?_; first | refine s_val rfl rfl rfl (r_ixN tb rfl rfl rfl rfl (by omega)) ?_ | refine s_val rfl rfl rfl (r_ixA tb rfl rfl rfl rfl (by omega) (by omega)) ?_ | refine s_val rfl rfl rfl (r_ixO tb rfl rfl rfl rfl (by omega)) ?_)
      | (refine s_k 4 rfl ?_; first | refine s_boxA rfl rfl rfl rfl rfl fun blk => ?_ | refine s_box1 rfl rfl rfl rfl rfl rfl fun blk => ?_)
      | (refine s_k 9 rfl ?_; (first | refine s_st1 tb rfl rfl rfl rfl rfl rfl rfl rfl ?_ | refine s_stA tb rfl rfl rfl rfl (by first | rfl | assumption | (apply Pv.size; assumption)) rfl rfl ?_); (first | refine' st0 ?qs ?_ | refine' st1 ?qs ?_ | refine' st2 ?qs ?_ | refine' st3 ?qs ?_ | refine' st4 ?qs ?_ | refine' st5 ?qs ?_ | refine' st6 ?qs ?_ | refine' st7 ?qs ?_ | refine' st8 ?qs ?_ | refine' st9 ?qs ?_ | refine' st10 ?qs ?_ | refine' st11 ?qs ?_); (case qs => (first | exact zSet)))
      | (refine s_k 36 rfl ?_; refine s_val rfl rfl rfl (r_len tb rfl rfl rfl) ?_)
      | refine s_nil ?_)
        | (refine c_g ?_; first | refine c_seq ?_ | refine c_region ?_ | (refine c_gc ?_; first | refine c_cond1 rfl zTr ?_ | refine c_cond0 rfl zTr ?_ | refine z_condd1 rfl ?_ | refine z_condd0 rfl ?_ | refine z_conddn1 rfl ?_ | refine z_conddn0 rfl ?_ | refine c_condd rfl (fun hc => ?_) (fun hc => ?_) | refine c_conddn rfl (fun hc => ?_) (fun hc => ?_) | refine c_condn rfl (fun hc => ?_) (fun hc => ?_) | refine c_cond rfl (fun hc => ?_) (fun hc => ?_)) | refine c_block ?_ | refine c_skip ?_ | refine c_exit ?_ | refine c_ret ?_)
        | (refine e_g ?_; first | refine e_then ?_ | refine e_blkn ?_ | refine e_thenx ?_ | refine e_thenr ?_ | refine e_blkr ?_ | refine e_blkx ?_ | refine e_blky rfl ?_)
        | (refine e_ret2 (by simp) rfl (re_tmp rfl) (re_tmp rfl) fun w hL => ⟨go, cap, cur, items, rfl, hA, hI, (Kn.perm hL.tail0.tail0.tail0 (List.Perm.swap _ _ _)).tail0⟩))
    · have hs1 := hs1 hVne
      obtain ⟨hw, hvc, h2, hl101⟩ := specW_way (q := (WS i).1) (fun c hc => hWI.cel (hca c hc)) (fun c hc => hWI.cel (hcb c hc)) hno hVne
      obtain ⟨hWn, hltO⟩ := hWI.step hca hcb hno hVne
      rw [show wayP (WS i).1 (specW (WS i).1 a b) ((specW (WS i).1 a b).length - 1) = (WS (i + 1)).1 by rw [hs1], show (WS i).2 ++ [specW (WS i).1 a b] = (WS (i + 1)).2 by rw [hs1]] at hWn
      rw [show wayP (WS i).1 (specW (WS i).1 a b) ((specW (WS i).1 a b).length - 1) = (WS (i + 1)).1 by rw [hs1]] at hltO
      have hq1 : (WS (i + 1)).1 = wayP (WS i).1 (specW (WS i).1 a b) ((specW (WS i).1 a b).length - 1) := by rw [hs1]
      have hq2 : (WS (i + 1)).2 = (WS i).2 ++ [specW (WS i).1 a b] := by rw [hs1]
      have hn1 := hWn.n
      have hway := fun w gt hg0 => hway w gt hg0 hcb1 hk
      rw [← hVe] at hway
      have hvR : ∀ c ∈ specW (WS i).1 a b, inR c := fun c hc => isC_range (hvc c hc)
      have hside := fun A cap w hS => sidesAll_any (specW (WS i).1 a b) A cap w hS (by omega) hVne hvR
      have hInP := aT_in hw hvR ((specW (WS i).1 a b).length - 1)
      obtain ⟨c', hc'⟩ := foldP_ex (on := true) hpq hInP
      have hfold := aT_fold (q := (WS i).1) hw ((specW (WS i).1 a b).length - 1)
      have hpc : Pv (WS (i + 1)).1 c' := by rw [hq1, ← hfold]; exact hc'
      have hal := aT_len (specW (WS i).1 a b) ((specW (WS i).1 a b).length - 1)
      have hfl := flH_len3 (aT (specW (WS i).1 a b) ((specW (WS i).1 a b).length - 1))
      have hmx : (aT (specW (WS i).1 a b) ((specW (WS i).1 a b).length - 1)).length ≤ maxLen := by unfold maxLen; omega
      have hwith := fun A cap w hS => with_any (WS i).1 cq c' (aT (specW (WS i).1 a b) ((specW (WS i).1 a b).length - 1)) true A cap w hpq hS hmx hInP hc'
      have hsc := hc'.size
      clear hc' hfold hInP
      generalize BL LO = bq at *
      generalize hQ1 : (WS (i + 1)).1 = q1 at *
      generalize (WS i).1 = q at *
      generalize (WS i).2 = S0 at *
      generalize specW q a b = V at *
      generalize aT V (V.length - 1) = HS at *
      have hlr : S0.length ≤ 1048576 := by omega
      repeat' (first
        | (refine s_g ?_; first
      | (refine s_gd rfl ?_; first | refine s_gd1 rfl rfl zTr ?_ | refine s_gd0 rfl rfl rfl zTr ?_ | refine s_gd00 rfl rfl zTr ?_ | refine s_gp1 rfl rfl rfl (fun hc => ?_) (fun hc => ?_) | refine s_gp0 rfl rfl rfl (fun hc => ?_) (fun hc => ?_) | refine s_gnp1 rfl rfl rfl (fun hc => ?_) (fun hc => ?_) | refine s_gnp0 rfl rfl rfl (fun hc => ?_) (fun hc => ?_) | refine s_gb1 rfl rfl rfl (fun hc => ?_) (fun hc => ?_) | refine s_gb0 rfl rfl rfl (fun hc => ?_) (fun hc => ?_) | refine s_gnb1 rfl rfl rfl (fun hc => ?_) (fun hc => ?_) | refine s_gnb0 rfl rfl rfl (fun hc => ?_) (fun hc => ?_))
      | (refine s_k 0 rfl ?_; refine s_val rfl rfl rfl (r_move rfl rfl) ?_)
      | (refine s_k 8 rfl ?_; first | (refine' s_val rfl rfl rfl (r_ldv rfl rfl ?qm ?qv) ?_; (case qm => (exact zMm)); (case qv => (first | exact ldvL tb rfl rfl | exact ldv1 tb rfl (by assumption) | exact ldvW tb rfl rfl | exact ldvW tb rfl (by assumption) | exact ldvW tb rfl (Pv.size (by assumption)) | exact ldvN tb rfl ext2_0 rfl | exact ldvN tb rfl ext2_2 rfl))) | (refine' s_val rfl rfl rfl (r_ldo rfl rfl ?qw (by simp) ?qv) ?_; (case qw => assumption); (case qv => (first | exact ldvL tb rfl rfl | exact ldv1 tb rfl (by assumption) | exact ldvW tb rfl rfl | exact ldvW tb rfl (by assumption) | exact ldvW tb rfl (Pv.size (by assumption)) | exact ldvN tb rfl ext2_0 rfl | exact ldvN tb rfl ext2_2 rfl))))
      | (refine s_k 1 rfl ?_; refine s_val rfl rfl rfl (r_assign rfl rfl) ?_)
      | (refine s_k 13 rfl ?_; first | refine s_val rfl rfl rfl (r_lss rfl rfl rfl) ?_ | refine s_val rfl rfl rfl (r_neq rfl rfl rfl) ?_ | refine s_val rfl rfl rfl (r_add rfl rfl rfl (wrap_in (by simp only [lo, hi]; omega))) ?_ | refine s_val rfl rfl rfl (r_geq rfl rfl rfl) ?_)
      | (refine s_k 35 rfl ?_; (refine s_callN Try.func43 (by kernel_rfl) rfl rfl rfl rfl rfl rfl (fun w hL => hway w _ (hL.at_ m2)) fun gw kw capw curw hAw => ?_; obtain rfl : kw = V.length := hAw.cnt))
      | (refine s_k 2 rfl ?_; first | refine s_val rfl rfl rfl (r_pick1 rfl rfl zTr rfl) ?_ | refine s_val rfl rfl rfl (r_pick0 rfl rfl zTr rfl) ?_)
      | (refine s_k 25 rfl ?_; first | refine s_val rfl rfl rfl (r_ixN tb rfl rfl rfl rfl (by omega)) ?_ | refine s_val rfl rfl rfl (r_ixA tb rfl rfl rfl rfl (by omega) (by omega)) ?_ | refine s_val rfl rfl rfl (r_ixO tb rfl rfl rfl rfl (by omega)) ?_)
      | (refine s_k 4 rfl ?_; first | refine s_boxA rfl rfl rfl rfl rfl fun blk => ?_ | refine s_box1 rfl rfl rfl rfl rfl rfl fun blk => ?_)
      | (refine s_k 9 rfl ?_; (first | refine s_st1 tb rfl rfl rfl rfl rfl rfl rfl rfl ?_ | refine s_stA tb rfl rfl rfl rfl (by first | rfl | assumption | (apply Pv.size; assumption)) rfl rfl ?_); (first | refine' st0 ?qs ?_ | refine' st1 ?qs ?_ | refine' st2 ?qs ?_ | refine' st3 ?qs ?_ | refine' st4 ?qs ?_ | refine' st5 ?qs ?_ | refine' st6 ?qs ?_ | refine' st7 ?qs ?_ | refine' st8 ?qs ?_ | refine' st9 ?qs ?_ | refine' st10 ?qs ?_ | refine' st11 ?qs ?_); (case qs => (first | exact setP hpc (by first | rfl | assumption) | exact zSet)))
      | (refine s_k 36 rfl ?_; first | refine s_app4 (c2 := [_]) hA rfl rfl rfl uSS iSS rfl (by omega) (by simp) (by simp) rfl (by simp [Value.oneCell']) (by unfold maxLen; omega) (by omega) rfl rfl rfl fun g' cap' cur' hA' => ?_ | refine s_val rfl rfl rfl (r_len tb rfl rfl rfl) ?_)
      | (refine s_k 6 rfl ?_; refine s_bsl rfl rfl (fun w => slSS1 _ _ _ w) rfl rfl rfl fun blk => ?_)
      | refine s_nil ?_)
        | (refine c_g ?_; first | refine c_seq ?_ | refine c_region ?_ | (refine c_gc ?_; first | refine c_cond1 rfl zTr ?_ | refine c_cond0 rfl zTr ?_ | refine z_condd1 rfl ?_ | refine z_condd0 rfl ?_ | refine z_conddn1 rfl ?_ | refine z_conddn0 rfl ?_ | refine c_condd rfl (fun hc => ?_) (fun hc => ?_) | refine c_conddn rfl (fun hc => ?_) (fun hc => ?_) | refine c_condn rfl (fun hc => ?_) (fun hc => ?_) | refine c_cond rfl (fun hc => ?_) (fun hc => ?_)) | refine c_block ?_ | refine c_skip ?_ | refine c_exit ?_ | refine c_ret ?_)
        | (refine e_g ?_; first | refine e_then ?_ | refine e_blkn ?_ | refine e_thenx ?_ | refine e_thenr ?_ | refine e_blkr ?_ | refine e_blkx ?_ | refine e_blky rfl ?_)
        | (refine y_g ?_; first
      | (refine y_gd rfl ?_; first | refine y_gd1 rfl rfl zTr ?_ | (refine y_gd0 rfl rfl rfl zTr ?hp ?_; (case hp => exact rfl)))
      | (refine y_k 8 rfl ?_; first | (refine' y_val rfl rfl rfl (r_ldv rfl rfl ?qm ?qv) ?hp ?_; (case qm => (exact zMm)); (case qv => (first | exact ldvL tb rfl rfl | exact ldv1 tb rfl (by assumption) | exact ldvW tb rfl rfl | exact ldvW tb rfl (by assumption) | exact ldvW tb rfl (Pv.size (by assumption)) | exact ldvN tb rfl ext2_0 rfl | exact ldvN tb rfl ext2_2 rfl)); (case hp => exact rfl)) | (refine' y_val rfl rfl rfl (r_ldo rfl rfl ?qw (by simp) ?qv) ?hp ?_; (case qw => assumption); (case qv => (first | exact ldvL tb rfl rfl | exact ldv1 tb rfl (by assumption) | exact ldvW tb rfl rfl | exact ldvW tb rfl (by assumption) | exact ldvW tb rfl (Pv.size (by assumption)) | exact ldvN tb rfl ext2_0 rfl | exact ldvN tb rfl ext2_2 rfl)); (case hp => exact rfl)))
      | (refine y_k 13 rfl ?_; first | (refine y_val rfl rfl rfl (r_lss rfl rfl rfl) ?hp ?_; (case hp => exact rfl)) | (refine y_val rfl rfl rfl (r_neq rfl rfl rfl) ?hp ?_; (case hp => exact rfl)) | (refine y_val rfl rfl rfl (r_add rfl rfl rfl (wrap_in (by simp only [lo, hi]; omega))) ?hp ?_; (case hp => exact rfl)) | (refine y_val rfl rfl rfl (r_geq rfl rfl rfl) ?hp ?_; (case hp => exact rfl)))
      | (refine y_k 35 rfl ?_; first | (refine' y_callN Try.func44 (by kernel_rfl) rfl rfl rfl rfl rfl rfl (fun w hL => hside _ _ w (hAw.slA (lenSp V) (hL.at_ m0))) hfl hmx ?hp (fun gh mh caph curh hAh => ?_); (case hp => exact rfl); have hm := hAh.len; obtain rfl : mh = HS.length := by omega) | (refine' y_rd Try.func29 (by kernel_rfl) rfl rfl rfl rfl rfl rfl List.mem_cons_self (List.mem_cons_of_mem _ List.mem_cons_self) rfl (fun w hL => hwith _ _ w (hAh.slH (hL.at_ m0)).2) ?hp ?_; (case hp => exact rfl)))
      | (refine y_k 2 rfl ?_; first | (refine y_val rfl rfl rfl (r_pick1 rfl rfl zTr rfl) ?hp ?_; (case hp => exact rfl)) | (refine y_val rfl rfl rfl (r_pick0 rfl rfl zTr rfl) ?hp ?_; (case hp => exact rfl)))
      | (refine y_k 25 rfl ?_; first | (refine y_val rfl rfl rfl (r_ixN tb rfl rfl rfl rfl (by omega)) ?hp ?_; (case hp => exact rfl)) | (refine y_val rfl rfl rfl (r_ixA tb rfl rfl rfl rfl (by omega) (by omega)) ?hp ?_; (case hp => exact rfl)) | (refine y_val rfl rfl rfl (r_ixO tb rfl rfl rfl rfl (by omega)) ?hp ?_; (case hp => exact rfl)))
      | (refine y_k 36 rfl ?_; (refine y_val rfl rfl rfl (r_len tb rfl rfl rfl) ?hp ?_; (case hp => exact rfl)))
      | refine y_nil0 ?_
      | refine y_nil ?_
      | (refine' y_k 0 rfl ?_; (refine' y_move rfl rfl rfl rfl rfl ?hp ?_; (case hp => exact rfl)))
      | (refine' y_k 1 rfl ?_; (refine' y_assign rfl rfl rfl rfl rfl ?hp ?_; (case hp => exact rfl)))
      | (refine' y_k 6 rfl ?_; (refine' y_bsl rfl rfl (fun w => slSS1 _ _ _ w) rfl rfl rfl ?hp (fun blk => ?_); (case hp => exact rfl))))
        | (refine' c_drawYT (id := 18) 4 [(Sum.inl _ : CalmB.Plan), (Sum.inl _ : CalmB.Plan), (Sum.inr _ : CalmB.Plan), (Sum.inl _ : CalmB.Plan)] (by kernel_rfl) (by kernel_rfl) ?_)
        | refine e_tail ?_
        | refine e_drop0 (e_rot5 (e_drop0 (e_drop0 (e_drop0 (e_round (i + 1, g', cap', cur', items ++ [(gw, capw, curw)], c') (by simp only [hQ1]; exact hltO) ⟨by simp only [hQ1]; exact hWn, by simp only [hq2]; rw [itV_snoc hI.len]; simpa using hA', by simp only [hq2]; exact hI.snoc hAw, by simp only [hQ1]; exact hpc⟩ ?_ (by simp only [itR_snoc])))))))
      all_goals (repeat' (first | exact sub_nil | refine sub_cons rfl ?_ | refine sub_cons' rfl (by simp [hq2, hQ1]) ?_))
end Go.Proofs.Ytnafnhpajkhgkaa
