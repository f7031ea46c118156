import Derived.Test.YtpifngdmlmfnhaaQA41
import Derived.Test.YtpifngdmlmfnhaaQA42
/- The cell that a goat chooses: the program's. No condition. -/
namespace Go.Proofs.Ytpifngdmlmfnhaa
set_option linter.unusedVariables false
set_option linter.unusedSimpArgs false
open Go.RowKit Mem Wk
attribute [local irreducible] Calls Wk.C Wk.E Wk.X Wk.T Wk.Y Wk.andV Wk.shrV Calm.wpLex CalmB.wpLex bfsN
theorem Wk.s_gdu {P : Program} {n : Nat} {O : List Nat} {w0 : World} {l : List (Nat × Value)} {L : List (Nat × TypeId × Array Value)} {Q : Exit → Act → World → Prop} {ops : Array Oper} {rest : List Oper} {d : Nat} {op : Op} {ty : TypeId} {ps : String} {af : Array Edge} {j : Nat} {b : Bool} {t : Nat} (hn : Nat.blt d n = true) (hj : (ops[j]?).bind (·.dst) = some t) (ht : lk l t = some undef) (h : Wk.S P ops Q n O w0 rest ((d, undef) :: l) L) : Wk.S P ops Q n O w0 (⟨some d, op, ty, ps, af, some (j, b)⟩ :: rest) l L := fun a w hF hL => by
  have h2 : Region.wanted ⟨some d, op, ty, ps, af, some (j, b)⟩ (yielded ops a.tmps) = false := by simp [Region.wanted, yu hF hj ht]
  unfold wpList
  rw [if_neg (by rw [h2]; simp)]
  exact h _ _ (hF.put hn undef) hL
attribute [local irreducible] Wk.S
def chBet (near : Bool) (r n : Int) : Bool := if near then (decide (0 < n) || (decide (n = 0) && decide (0 < r))) else (decide (0 < r) || (decide (r = 0) && decide (0 < n)))
def chStep (p : Nat → Int) (g : Gt) (st : Sp × Bool) (c : Sp) : Sp × Bool :=
  if p (gi c.x c.y) = 0 then st else if !st.2 || chBet (decide (g.likes = 1)) (p (gi c.x c.y) - p (gi st.1.x st.1.y)) (strD p ⟨g.x, g.y⟩ (ci st.1) - strD p ⟨g.x, g.y⟩ (ci c)) then (c, true) else st
def choAt (p : Nat → Int) (g : Gt) (l : List Sp) : Sp × Bool := l.foldl (chStep p g) (⟨0, 0⟩, false)
/-- the choice of a goat, and whether there is one -/
def choV (p : Nat → Int) (g : Gt) : Sp × Bool := choAt p g (gtlL p g)
theorem choAt_inR (p : Nat → Int) (g : Gt) : ∀ (l : List Sp) (st : Sp × Bool), inR st.1 → (∀ c ∈ l, inR c) → inR (l.foldl (chStep p g) st).1
  | [], st, h, _ => h
  | c :: l, st, h, hl => by
    rw [List.foldl_cons]
    refine choAt_inR p g l _ ?_ fun d hd => hl d (List.mem_cons_of_mem _ hd)
    unfold chStep
    split
    · exact h
    · split
      · exact hl c List.mem_cons_self
      · exact h
theorem gtlL_inR {p : Nat → Int} {g : Gt} (ha : p 0 ≤ 10) (hb : p 1 ≤ 10) : ∀ c ∈ gtlL p g, inR c := fun c hc => yard_inR ha hb (List.mem_filter.1 hc).1
theorem choAt_in {p : Nat → Int} {g : Gt} {l : List Sp} (hl : ∀ c ∈ l, inR c) (k : Nat) : inR (choAt p g (l.take k)).1 :=
  choAt_inR p g _ _ ⟨by simp, by simp, by simp, by simp⟩ fun c hc => hl c (List.mem_of_mem_take hc)
theorem choAt_succ {p : Nat → Int} {g : Gt} {l : List Sp} {k : Nat} {c : Sp} (h : l[k]? = some c) : choAt p g (l.take (k + 1)) = chStep p g (choAt p g (l.take k)) c := by
  unfold choAt; rw [List.take_add_one, h, List.foldl_append]; rfl
theorem chStep_no {p : Nat → Int} {g : Gt} {st : Sp × Bool} {c : Sp} (h : p (gi c.x c.y) = 0) : chStep p g st c = st := by unfold chStep; rw [if_pos h]
theorem chStep_yes {p : Nat → Int} {g : Gt} {st : Sp × Bool} {c : Sp} (h : ¬ p (gi c.x c.y) = 0) : chStep p g st c = if !st.2 || chBet (decide (g.likes = 1)) (p (gi c.x c.y) - p (gi st.1.x st.1.y)) (strD p ⟨g.x, g.y⟩ (ci st.1) - strD p ⟨g.x, g.y⟩ (ci c)) then (c, true) else st := by
  unfold chStep; rw [if_neg h]
theorem farAtS {D : Nat → Int} {tab : Array Value} {T : TypeId} {g : Nat} (c : Sp) {w : World} (hT : GI .i16 1 D tab) (hD : ∀ j, 0 ≤ D j ∧ D j ≤ 101) (hg : w.heap[g]? = some (.cells tab T (0, 0))) (hc : inR c) :
    Calls Try.prog 140 #[.pointer (some ⟨g, 0, none⟩), .agg #[.int .i8 c.x, .int .i8 c.y]] w fun e w' => e = .returned (.int .i64 (D (ci c) - 1)) ∧ Below w.heap.size w w' := farAt_any D tab T g c.x c.y w hT hD hg ⟨hc.1, hc.2.1⟩ hc.2.2
theorem bSpot0 (w : World) : (Instr.build 88 #[]).run Try.prog w = .ok (.agg #[.int .i8 0, .int .i8 0]) w := by kernel_rfl
set_option maxRecDepth 100000 in
set_option maxHeartbeats 4000000 in
theorem choice_any (p : Nat → Int) (cs : Array Value) (g : Gt) (w : World) (hp : Pv p cs) (hgk : g.ok) (ha : p 0 ≤ 10) (hb : p 1 ≤ 10) (hc : isC (p 0) (p 1) g.x g.y = true) :
    Calls Try.prog 168 #[.agg cs, .agg #[.int .i8 g.x, .int .i8 g.y, .int .i8 g.u, .int .i8 g.v, .int .i16 g.rope, .int .i16 g.eats, .int .i8 g.likes]] w fun e w' => e = .returned (.tuple #[.agg #[.int .i8 (choV p g).1.x, .int .i8 (choV p g).1.y], .bool (choV p g).2]) ∧ Below w.heap.size w w' := by
  have hsz := hp.size
  have hr : inR ⟨g.x, g.y⟩ := isC_range hc
  have hD := strD_val p (o := ⟨g.x, g.y⟩) hr
  have hT : GI .i16 1 (strD p ⟨g.x, g.y⟩) (giA .i16 1 (strD p ⟨g.x, g.y⟩)) := giA_ok .i16 1 _
  have hone : ∀ c ∈ [Sp.mk g.x g.y], inR c := fun c hcm => isC_range (one_isC (o := ⟨g.x, g.y⟩) hc c hcm)
  have hl1 : [Sp.mk g.x g.y].length ≤ 1048576 := by simp
  have hlen := gtlL_len (g := g) ha hb hc
  have hin := gtlL_inR (p := p) (g := g) ha hb
  have hcells := fun w => cellsFor_any p cs g w hp hgk ha hb hc
  have hat := fun k => choAt_in (g := g) hin (p := p) k
  unfold choV
  generalize gtlL p g = Y at *
  refine enter2 Try.func168 rfl rfl rfl (Own.start w) ?_
  repeat' (first
    | (refine s_g ?_; first
      | (refine s_gd rfl ?_; first | refine s_gd1 rfl rfl zTr ?_ | refine s_gd0 rfl rfl rfl zTr ?_ | refine s_gd00 rfl rfl zTr ?_ | refine s_gp1 rfl rfl rfl (fun hc => ?_) (fun hc => ?_) | refine s_gp0 rfl rfl rfl (fun hc => ?_) (fun hc => ?_) | refine s_gnp1 rfl rfl rfl (fun hc => ?_) (fun hc => ?_) | refine s_gnp0 rfl rfl rfl (fun hc => ?_) (fun hc => ?_) | refine s_gb1 rfl rfl rfl (fun hc => ?_) (fun hc => ?_) | refine s_gb0 rfl rfl rfl (fun hc => ?_) (fun hc => ?_) | refine s_gnb1 rfl rfl rfl (fun hc => ?_) (fun hc => ?_) | refine s_gnb0 rfl rfl rfl (fun hc => ?_) (fun hc => ?_))
      | (refine s_k 0 rfl ?_; refine s_val rfl rfl rfl (r_move rfl rfl) ?_)
      | (refine s_k 23 rfl ?_; first | refine s_val rfl rfl rfl (r_field tb rfl rfl rfl) ?_ | refine s_val rfl rfl rfl (r_fieldS tb rfl rfl rfl) ?_)
      | (refine s_k 8 rfl ?_; first | (refine' s_val rfl rfl rfl (r_ldv rfl rfl ?qm ?qv) ?_; (case qm => (exact zMm)); (case qv => (exact zLe))) | (refine' s_val rfl rfl rfl (r_ldo rfl rfl ?qw (by simp) ?qv) ?_; (case qw => assumption); (case qv => (exact zLe))))
      | (refine s_k 1 rfl ?_; refine s_val rfl rfl rfl (r_assign rfl rfl) ?_)
      | (refine s_k 13 rfl ?_; first | refine s_val rfl rfl rfl (r_lss rfl rfl rfl) ?_ | refine s_val rfl rfl rfl (r_eql rfl rfl rfl) ?_ | refine s_val rfl rfl rfl (r_add rfl rfl rfl (wrap_in (by simp only [lo, hi]; omega))) ?_ | refine s_val rfl rfl rfl (r_sub rfl rfl rfl (wrap_in (by simp only [lo, hi]; omega))) ?_ | refine s_val rfl rfl rfl (r_gtr rfl rfl rfl) ?_)
      | (refine s_k 35 rfl ?_; first | (refine s_call Try.func137 (by kernel_rfl) rfl rfl rfl rfl rfl rfl (fun w hL => far_any p cs [⟨g.x, g.y⟩] _ 0 1 _ hp hone hl1 (one_slA ⟨g.x, g.y⟩ (hL.at_ m0))) ?_) | (refine s_callN Try.func122 (by kernel_rfl) rfl rfl rfl rfl rfl rfl (fun w hL => hcells w) fun gy k capy cury hAy => ?_))
      | (refine s_k 14 rfl ?_; refine s_val rfl rfl rfl (r_not rfl rfl) ?_)
      | (refine s_k 2 rfl ?_; first | refine s_val rfl rfl rfl (r_pick1 rfl rfl zTr rfl) ?_ | refine s_val rfl rfl rfl (r_pick0 rfl rfl zTr rfl) ?_)
      | (refine s_k 25 rfl ?_; first | refine s_val rfl rfl rfl (r_ixN tb rfl rfl rfl rfl (by omega)) ?_ | refine s_val rfl rfl rfl (r_ixA tb rfl rfl rfl rfl (by omega) (by omega)) ?_ | refine s_val rfl rfl rfl (r_ixO tb rfl rfl rfl rfl (by omega)) ?_)
      | (refine s_k 4 rfl ?_; first | refine s_boxA rfl rfl rfl rfl rfl fun blk => ?_ | refine s_box1 rfl rfl rfl rfl rfl rfl fun blk => ?_)
      | (refine s_k 9 rfl ?_; (first | refine s_st1 tb rfl rfl rfl rfl rfl rfl rfl rfl ?_ | refine s_stA tb rfl rfl rfl rfl (by first | rfl | assumption | (apply Pv.size; assumption)) rfl rfl ?_); (first | refine' st0 ?qs ?_ | refine' st1 ?qs ?_ | refine' st2 ?qs ?_ | refine' st3 ?qs ?_ | refine' st4 ?qs ?_ | refine' st5 ?qs ?_ | refine' st6 ?qs ?_ | refine' st7 ?qs ?_ | refine' st8 ?qs ?_ | refine' st9 ?qs ?_ | refine' st10 ?qs ?_ | refine' st11 ?qs ?_); (case qs => (first | exact setG (giA_ok _ _ _) zSt_ok.size | exact zSet)))
      | (refine s_k 3 rfl ?_; first | refine s_allocA (t := 88) rfl zImplSpot rfl rfl rfl fun blk => ?_ | refine s_allocA (t := 182) rfl zStepsV rfl rfl rfl fun blk => ?_)
      | (refine s_k 36 rfl ?_; refine s_val rfl rfl rfl (r_len tb rfl rfl rfl) ?_)
      | (refine s_k 5 rfl ?_; refine s_val rfl rfl rfl (r_build rfl rfl (fun w => bSpot0 w)) ?_)
      | (refine s_k 6 rfl ?_; refine s_bsl rfl rfl (fun w => slSpot1 _ _ w) rfl rfl rfl fun blk => ?_)
      | refine s_nil ?_)
    | (refine c_g ?_; first | refine c_seq ?_ | refine c_region ?_ | (refine c_gc ?_; first | refine c_cond1 rfl zTr ?_ | refine c_cond0 rfl zTr ?_ | refine z_condd1 rfl ?_ | refine z_condd0 rfl ?_ | refine z_conddn1 rfl ?_ | refine z_conddn0 rfl ?_ | refine c_condd rfl (fun hc => ?_) (fun hc => ?_) | refine c_conddn rfl (fun hc => ?_) (fun hc => ?_) | refine c_condn rfl (fun hc => ?_) (fun hc => ?_) | refine c_cond rfl (fun hc => ?_) (fun hc => ?_)) | refine c_block ?_ | refine c_skip ?_ | refine c_exit ?_ | refine c_ret ?_)
    | (refine e_g ?_; first | refine e_then ?_ | refine e_blkn ?_ | refine e_thenx ?_ | refine e_thenr ?_ | refine e_blkr ?_ | refine e_blkx ?_ | refine e_blky rfl ?_))
  obtain rfl := hAy.cnt
  rename_i b2 b3 b4 b16 b6
  refine c_loop (ι := Nat × Sp × Bool) (fun i => Y.length - i.1) (fun i => i.1 ≤ Y.length ∧ choAt p g (Y.take i.1) = i.2) (fun i => [(23, .int .i64 (i.1 : Int)), (22, .int .i64 (Y.length : Int)), (21, .slice (some ⟨gy, 0, none⟩) Y.length capy), (8, .bool i.2.2), (7, .pointer (some ⟨blk, 0, none⟩)), (6, .pointer (some ⟨b6, 0, none⟩)), (4, .pointer (some ⟨b4, 0, none⟩)), (3, .pointer (some ⟨b3, 0, none⟩)), (2, .pointer (some ⟨b2, 0, none⟩))]) (fun i => [(gy, 88, cury), (blk, 88, #[.int .i8 i.2.1.x, .int .i8 i.2.1.y]), (b6, 182, giA .i16 1 (strD p ⟨g.x, g.y⟩)), (b16, 88, #[.int .i8 g.x, .int .i8 g.y]), (b4, 88, #[.int .i8 0, .int .i8 0]), (b3, 102, #[.int .i8 g.x, .int .i8 g.y, .int .i8 g.u, .int .i8 g.v, .int .i16 g.rope, .int .i16 g.eats, .int .i8 g.likes]), (b2, 34, cs)]) (0, ⟨0, 0⟩, false) ⟨by omega, rfl⟩ ?hs rfl ?_
  case hs => (repeat' (first | exact sub_nil | refine sub_cons rfl ?_))
  rintro ⟨k, b, fnd⟩ ⟨hk, hst⟩
  simp only at hk hst ⊢
  by_cases hlt : k < Y.length
  · have hx : Y[k]? = some Y[k] := List.getElem?_eq_getElem hlt
    have hcr := hin _ (List.getElem_mem hlt)
    have hsp := hAy.spot hx
    have hts := choAt_succ (p := p) (g := g) hx
    have hbr := hat k
    rw [hst] at hbr hts
    simp only at hbr
    generalize Y[k] = c at *
    have hgc := gi_lt ⟨hcr.1, hcr.2.1⟩ hcr.2.2
    have h16 := hp.i16 _ hgc.1 hgc.2
    have hgb := gi_lt ⟨hbr.1, hbr.2.1⟩ hbr.2.2
    have h16b := hp.i16 _ hgb.1 hgb.2
    have hDc := hD (ci c)
    have hDb := hD (ci b)
    by_cases hz : p (gi c.x c.y) = 0
    · rw [chStep_no hz] at hts
      repeat' (first
        | (refine s_g ?_; first
      | (refine s_gd rfl ?_; first | refine s_gd1 rfl rfl zTr ?_ | refine s_gd0 rfl rfl rfl zTr ?_ | refine s_gd00 rfl rfl zTr ?_ | refine s_gp1 rfl rfl rfl (fun hc => ?_) (fun hc => ?_) | refine s_gp0 rfl rfl rfl (fun hc => ?_) (fun hc => ?_) | refine s_gnp1 rfl rfl rfl (fun hc => ?_) (fun hc => ?_) | refine s_gnp0 rfl rfl rfl (fun hc => ?_) (fun hc => ?_) | refine s_gb1 rfl rfl rfl (fun hc => ?_) (fun hc => ?_) | refine s_gb0 rfl rfl rfl (fun hc => ?_) (fun hc => ?_) | refine s_gnb1 rfl rfl rfl (fun hc => ?_) (fun hc => ?_) | refine s_gnb0 rfl rfl rfl (fun hc => ?_) (fun hc => ?_))
      | (refine s_k 0 rfl ?_; refine s_val rfl rfl rfl (r_move rfl rfl) ?_)
      | (refine s_k 23 rfl ?_; first | refine s_val rfl rfl rfl (r_field tb rfl rfl rfl) ?_ | refine s_val rfl rfl rfl (r_fieldS tb rfl rfl rfl) ?_)
      | (refine s_k 8 rfl ?_; first | refine s_val rfl rfl rfl (r_ldN tb rfl rfl m0 rfl hsp.1 hsp.2) ?_ | (refine' s_val rfl rfl rfl (r_ldv rfl rfl ?qm ?qv) ?_; (case qm => (exact zMm)); (case qv => (exact zLe))) | (refine' s_val rfl rfl rfl (r_ldo rfl rfl ?qw (by simp) ?qv) ?_; (case qw => assumption); (case qv => (exact zLe))))
      | (refine s_k 1 rfl ?_; refine s_val rfl rfl rfl (r_assign rfl rfl) ?_)
      | (refine s_k 13 rfl ?_; first | refine s_val rfl rfl rfl (r_lss rfl rfl rfl) ?_ | refine s_val rfl rfl rfl (r_eql rfl rfl rfl) ?_ | refine s_val rfl rfl rfl (r_add rfl rfl rfl (wrap_in (by simp only [lo, hi]; omega))) ?_ | refine s_val rfl rfl rfl (r_sub rfl rfl rfl (wrap_in (by simp only [lo, hi]; omega))) ?_ | refine s_val rfl rfl rfl (r_gtr rfl rfl rfl) ?_)
      | (refine s_k 35 rfl ?_; (refine s_call Try.func232 (by kernel_rfl) rfl rfl rfl rfl rfl rfl (fun w hL => grass_any p cs c.x c.y _ hp ⟨hcr.1, hcr.2.1⟩ hcr.2.2) ?_))
      | (refine s_k 14 rfl ?_; refine s_val rfl rfl rfl (r_not rfl rfl) ?_)
      | (refine s_k 2 rfl ?_; first | refine s_val rfl rfl rfl (r_pick1 rfl rfl zTr rfl) ?_ | refine s_val rfl rfl rfl (r_pick0 rfl rfl zTr rfl) ?_)
      | (refine s_k 25 rfl ?_; first | refine s_val rfl rfl rfl (r_ixO tb rfl rfl rfl rfl hlt) ?_ | refine s_val rfl rfl rfl (r_ixN tb rfl rfl rfl rfl (by omega)) ?_ | refine s_val rfl rfl rfl (r_ixA tb rfl rfl rfl rfl (by omega) (by omega)) ?_ | refine s_val rfl rfl rfl (r_ixO tb rfl rfl rfl rfl (by omega)) ?_)
      | (refine s_k 4 rfl ?_; first | refine s_boxA rfl rfl rfl rfl rfl fun blk => ?_ | refine s_box1 rfl rfl rfl rfl rfl rfl fun blk => ?_)
      | (refine s_k 9 rfl ?_; (first | refine s_st1 tb rfl rfl rfl rfl rfl rfl rfl rfl ?_ | refine s_stA tb rfl rfl rfl rfl (by first | rfl | assumption | (apply Pv.size; assumption)) rfl rfl ?_); (first | refine' st0 ?qs ?_ | refine' st1 ?qs ?_ | refine' st2 ?qs ?_ | refine' st3 ?qs ?_ | refine' st4 ?qs ?_ | refine' st5 ?qs ?_ | refine' st6 ?qs ?_ | refine' st7 ?qs ?_ | refine' st8 ?qs ?_ | refine' st9 ?qs ?_ | refine' st10 ?qs ?_ | refine' st11 ?qs ?_); (case qs => (first | exact set_whole (vs := c.cells.toArray) rfl (by simp [Sp.cells, Value.oneCell']) | exact zSet)))
      | (refine s_k 3 rfl ?_; refine s_allocA (t := 88) rfl zImplSpot rfl rfl rfl fun blk => ?_)
      | (refine s_k 36 rfl ?_; refine s_val rfl rfl rfl (r_len tb rfl rfl rfl) ?_)
      | refine s_nil ?_)
        | (refine c_g ?_; first | refine c_seq ?_ | refine c_region ?_ | (refine c_gc ?_; first | refine c_cond1 rfl zTr ?_ | refine c_cond0 rfl zTr ?_ | refine z_condd1 rfl ?_ | refine z_condd0 rfl ?_ | refine z_conddn1 rfl ?_ | refine z_conddn0 rfl ?_ | refine c_condd rfl (fun hc => ?_) (fun hc => ?_) | refine c_conddn rfl (fun hc => ?_) (fun hc => ?_) | refine c_condn rfl (fun hc => ?_) (fun hc => ?_) | refine c_cond rfl (fun hc => ?_) (fun hc => ?_)) | refine c_block ?_ | refine c_skip ?_ | refine c_exit ?_ | refine c_ret ?_)
        | (refine e_g ?_; first | refine e_then ?_ | refine e_blkn ?_ | refine e_thenx ?_ | refine e_thenr ?_ | refine e_blkr ?_ | refine e_blkx ?_ | refine e_blky rfl ?_)
        | (refine e_drop0 (e_round (k + 1, b, fnd) (by simp; omega) ⟨by simp; omega, hts⟩ ?_ rfl)))
      all_goals (repeat' (first | exact sub_nil | refine sub_cons rfl ?_))
    · rw [chStep_yes hz] at hts
      simp only at hts
      generalize hre : p (gi c.x c.y) - p (gi b.x b.y) = r at *
      generalize hne : strD p ⟨g.x, g.y⟩ (ci b) - strD p ⟨g.x, g.y⟩ (ci c) = n at *
      have hn2 : strD p ⟨g.x, g.y⟩ (ci b) - 1 - (strD p ⟨g.x, g.y⟩ (ci c) - 1) = n := by omega
      by_cases hlk : g.likes = 1
      all_goals
        (cases fnd
         case' true =>
          rcases Int.lt_trichotomy r 0 with hr1 | hr1 | hr1
          all_goals rcases Int.lt_trichotomy n 0 with hn1 | hn1 | hn1)
      all_goals
        have e1 : decide (0 < r) = decide (0 < r) := rfl
        repeat' (first
          | (refine s_g ?_; first
      | (refine s_gd rfl ?_; first | refine s_gd1 rfl rfl zTr ?_ | refine s_gd0 rfl rfl rfl zTr ?_ | refine s_gd00 rfl rfl zTr ?_ | refine s_gdu rfl rfl rfl ?_ | refine s_gp1 rfl rfl rfl (fun hc => ?_) (fun hc => ?_) | refine s_gp0 rfl rfl rfl (fun hc => ?_) (fun hc => ?_) | refine s_gnp1 rfl rfl rfl (fun hc => ?_) (fun hc => ?_) | refine s_gnp0 rfl rfl rfl (fun hc => ?_) (fun hc => ?_) | refine s_gb1 rfl rfl rfl (fun hc => ?_) (fun hc => ?_) | refine s_gb0 rfl rfl rfl (fun hc => ?_) (fun hc => ?_) | refine s_gnb1 rfl rfl rfl (fun hc => ?_) (fun hc => ?_) | refine s_gnb0 rfl rfl rfl (fun hc => ?_) (fun hc => ?_))
      | (refine s_k 0 rfl ?_; refine s_val rfl rfl rfl (r_move rfl rfl) ?_)
      | (refine s_k 23 rfl ?_; first | refine s_val rfl rfl rfl (r_field tb rfl rfl rfl) ?_ | refine s_val rfl rfl rfl (r_fieldS tb rfl rfl rfl) ?_)
      | (refine s_k 8 rfl ?_; first | refine s_val rfl rfl rfl (r_ldN tb rfl rfl m0 rfl hsp.1 hsp.2) ?_ | (refine' s_val rfl rfl rfl (r_ldv rfl rfl ?qm ?qv) ?_; (case qm => (exact zMm)); (case qv => (exact zLe))) | (refine' s_val rfl rfl rfl (r_ldo rfl rfl ?qw (by simp) ?qv) ?_; (case qw => assumption); (case qv => (exact zLe))))
      | (refine s_k 1 rfl ?_; refine s_val rfl rfl rfl (r_assign rfl rfl) ?_)
      | (refine s_k 13 rfl ?_; first | refine s_val rfl rfl rfl (r_lss rfl rfl rfl) ?_ | refine s_val rfl rfl rfl (r_eql rfl rfl rfl) ?_ | refine s_val rfl rfl rfl (r_add rfl rfl rfl (wrap_in (by simp only [lo, hi]; omega))) ?_ | refine s_val rfl rfl rfl (r_sub rfl rfl rfl (wrap_in (by simp only [lo, hi]; omega))) ?_ | refine s_val rfl rfl rfl (r_gtr rfl rfl rfl) ?_)
      | (refine s_k 35 rfl ?_; first | (refine s_call Try.func232 (by kernel_rfl) rfl rfl rfl rfl rfl rfl (fun w hL => grass_any p cs c.x c.y _ hp ⟨hcr.1, hcr.2.1⟩ hcr.2.2) ?_) | (refine s_call Try.func232 (by kernel_rfl) rfl rfl rfl rfl rfl rfl (fun w hL => grass_any p cs b.x b.y _ hp ⟨hbr.1, hbr.2.1⟩ hbr.2.2) ?_) | (refine s_call Try.func140 (by kernel_rfl) rfl rfl rfl rfl rfl rfl (fun w hL => farAtS c hT hD (hL.at_ m3) hcr) ?_) | (refine s_call Try.func140 (by kernel_rfl) rfl rfl rfl rfl rfl rfl (fun w hL => farAtS b hT hD (hL.at_ m3) hbr) ?_))
      | (refine s_k 14 rfl ?_; refine s_val rfl rfl rfl (r_not rfl rfl) ?_)
      | (refine s_k 2 rfl ?_; first | refine s_val rfl rfl rfl (r_pick1 rfl rfl zTr rfl) ?_ | refine s_val rfl rfl rfl (r_pick0 rfl rfl zTr rfl) ?_)
      | (refine s_k 25 rfl ?_; first | refine s_val rfl rfl rfl (r_ixO tb rfl rfl rfl rfl hlt) ?_ | refine s_val rfl rfl rfl (r_ixN tb rfl rfl rfl rfl (by omega)) ?_ | refine s_val rfl rfl rfl (r_ixA tb rfl rfl rfl rfl (by omega) (by omega)) ?_ | refine s_val rfl rfl rfl (r_ixO tb rfl rfl rfl rfl (by omega)) ?_)
      | (refine s_k 4 rfl ?_; first | refine s_boxA rfl rfl rfl rfl rfl fun blk => ?_ | refine s_box1 rfl rfl rfl rfl rfl rfl fun blk => ?_)
      | (refine s_k 9 rfl ?_; (first | refine s_st1 tb rfl rfl rfl rfl rfl rfl rfl rfl ?_ | refine s_stA tb rfl rfl rfl rfl (by first | rfl | assumption | (apply Pv.size; assumption)) rfl rfl ?_); (first | refine' st0 ?qs ?_ | refine' st1 ?qs ?_ | refine' st2 ?qs ?_ | refine' st3 ?qs ?_ | refine' st4 ?qs ?_ | refine' st5 ?qs ?_ | refine' st6 ?qs ?_ | refine' st7 ?qs ?_ | refine' st8 ?qs ?_ | refine' st9 ?qs ?_ | refine' st10 ?qs ?_ | refine' st11 ?qs ?_); (case qs => (first | exact set_whole (vs := c.cells.toArray) rfl (by simp [Sp.cells, Value.oneCell']) | exact set_any (vs := c.cells.toArray) (by simp [Sp.cells]) (by simp [Sp.cells, Value.oneCell']) | exact zSet)))
      | (refine s_k 3 rfl ?_; refine s_allocA (t := 88) rfl zImplSpot rfl rfl rfl fun blk => ?_)
      | (refine s_k 36 rfl ?_; refine s_val rfl rfl rfl (r_len tb rfl rfl rfl) ?_)
      | refine s_nil ?_)
          | (refine c_g ?_; first | refine c_seq ?_ | refine c_region ?_ | (refine c_gc ?_; first | refine c_cond1 rfl zTr ?_ | refine c_cond0 rfl zTr ?_ | refine z_condd1 rfl ?_ | refine z_condd0 rfl ?_ | refine z_conddn1 rfl ?_ | refine z_conddn0 rfl ?_ | refine c_condd rfl (fun hc => ?_) (fun hc => ?_) | refine c_conddn rfl (fun hc => ?_) (fun hc => ?_) | refine c_condn rfl (fun hc => ?_) (fun hc => ?_) | refine c_cond rfl (fun hc => ?_) (fun hc => ?_)) | refine c_block ?_ | refine c_skip ?_ | refine c_exit ?_ | refine c_ret ?_)
          | (refine e_g ?_; first | refine e_then ?_ | refine e_blkn ?_ | refine e_thenx ?_ | refine e_thenr ?_ | refine e_blkr ?_ | refine e_blkx ?_ | refine e_blky rfl ?_)
          | (refine x_g ?_; first
      | (refine x_gd rfl ?_; first | refine x_gd1 rfl rfl zTr ?_ | (refine x_gd0 rfl rfl rfl zTr ?hp ?_; (case hp => exact rfl)))
      | (refine x_k 0 rfl ?_; (refine x_val rfl rfl rfl (r_move rfl rfl) ?hp ?_; (case hp => exact rfl)))
      | (refine x_k 23 rfl ?_; first | (refine x_val rfl rfl rfl (r_field tb rfl rfl rfl) ?hp ?_; (case hp => exact rfl)) | (refine x_val rfl rfl rfl (r_fieldS tb rfl rfl rfl) ?hp ?_; (case hp => exact rfl)))
      | (refine x_k 8 rfl ?_; first | (refine x_val rfl rfl rfl (r_ldN tb rfl rfl m0 rfl hsp.1 hsp.2) ?hp ?_; (case hp => exact rfl)) | (refine' x_val rfl rfl rfl (r_ldv rfl rfl ?qm ?qv) ?hp ?_; (case qm => (exact zMm)); (case qv => (exact zLe)); (case hp => exact rfl)) | (refine' x_val rfl rfl rfl (r_ldo rfl rfl ?qw (by simp) ?qv) ?hp ?_; (case qw => assumption); (case qv => (exact zLe)); (case hp => exact rfl)))
      | (refine x_k 1 rfl ?_; (refine x_val rfl rfl rfl (r_assign rfl rfl) ?hp ?_; (case hp => exact rfl)))
      | (refine x_k 13 rfl ?_; first | (refine x_val rfl rfl rfl (r_lss rfl rfl rfl) ?hp ?_; (case hp => exact rfl)) | (refine x_val rfl rfl rfl (r_eql rfl rfl rfl) ?hp ?_; (case hp => exact rfl)) | (refine x_val rfl rfl rfl (r_add rfl rfl rfl (wrap_in (by simp only [lo, hi]; omega))) ?hp ?_; (case hp => exact rfl)) | (refine x_val rfl rfl rfl (r_sub rfl rfl rfl (wrap_in (by simp only [lo, hi]; omega))) ?hp ?_; (case hp => exact rfl)) | (refine x_val rfl rfl rfl (r_gtr rfl rfl rfl) ?hp ?_; (case hp => exact rfl)))
      | (refine x_k 35 rfl ?_; first | (refine x_call Try.func232 (by kernel_rfl) rfl rfl rfl rfl rfl rfl (fun w hL => grass_any p cs c.x c.y _ hp ⟨hcr.1, hcr.2.1⟩ hcr.2.2) ?hp ?_; (case hp => exact rfl)) | (refine x_call Try.func232 (by kernel_rfl) rfl rfl rfl rfl rfl rfl (fun w hL => grass_any p cs b.x b.y _ hp ⟨hbr.1, hbr.2.1⟩ hbr.2.2) ?hp ?_; (case hp => exact rfl)) | (refine x_call Try.func140 (by kernel_rfl) rfl rfl rfl rfl rfl rfl (fun w hL => farAtS c hT hD (hL.at_ m3) hcr) ?hp ?_; (case hp => exact rfl)) | (refine x_call Try.func140 (by kernel_rfl) rfl rfl rfl rfl rfl rfl (fun w hL => farAtS b hT hD (hL.at_ m3) hbr) ?hp ?_; (case hp => exact rfl)))
      | (refine x_k 14 rfl ?_; (refine x_val rfl rfl rfl (r_not rfl rfl) ?hp ?_; (case hp => exact rfl)))
      | (refine x_k 2 rfl ?_; first | (refine x_val rfl rfl rfl (r_pick1 rfl rfl zTr rfl) ?hp ?_; (case hp => exact rfl)) | (refine x_val rfl rfl rfl (r_pick0 rfl rfl zTr rfl) ?hp ?_; (case hp => exact rfl)))
      | (refine x_k 25 rfl ?_; first | (refine x_val rfl rfl rfl (r_ixO tb rfl rfl rfl rfl hlt) ?hp ?_; (case hp => exact rfl)) | (refine x_val rfl rfl rfl (r_ixN tb rfl rfl rfl rfl (by omega)) ?hp ?_; (case hp => exact rfl)) | (refine x_val rfl rfl rfl (r_ixA tb rfl rfl rfl rfl (by omega) (by omega)) ?hp ?_; (case hp => exact rfl)) | (refine x_val rfl rfl rfl (r_ixO tb rfl rfl rfl rfl (by omega)) ?hp ?_; (case hp => exact rfl)))
      | (refine x_k 4 rfl ?_; (refine x_boxA rfl rfl rfl rfl rfl ?hp (fun blk => ?_); (case hp => exact rfl)))
      | (refine x_k 9 rfl ?_; first | (refine' x_putA0 tb rfl rfl rfl rfl (by first | rfl | assumption | (apply Pv.size; assumption)) ?qs (by first | rfl | assumption | (apply Pv.size; assumption)) rfl rfl ?hp ?_; (case qs => (first | exact set_whole (vs := c.cells.toArray) rfl (by simp [Sp.cells, Value.oneCell']) | exact set_any (vs := c.cells.toArray) (by simp [Sp.cells]) (by simp [Sp.cells, Value.oneCell']) | exact zSet)); (case hp => exact rfl)) | (refine' x_putA1 tb rfl rfl rfl rfl (by first | rfl | assumption | (apply Pv.size; assumption)) ?qs (by first | rfl | assumption | (apply Pv.size; assumption)) rfl rfl ?hp ?_; (case qs => (first | exact set_whole (vs := c.cells.toArray) rfl (by simp [Sp.cells, Value.oneCell']) | exact set_any (vs := c.cells.toArray) (by simp [Sp.cells]) (by simp [Sp.cells, Value.oneCell']) | exact zSet)); (case hp => exact rfl)) | (refine' x_putA2 tb rfl rfl rfl rfl (by first | rfl | assumption | (apply Pv.size; assumption)) ?qs (by first | rfl | assumption | (apply Pv.size; assumption)) rfl rfl ?hp ?_; (case qs => (first | exact set_whole (vs := c.cells.toArray) rfl (by simp [Sp.cells, Value.oneCell']) | exact set_any (vs := c.cells.toArray) (by simp [Sp.cells]) (by simp [Sp.cells, Value.oneCell']) | exact zSet)); (case hp => exact rfl)))
      | (refine x_k 3 rfl ?_; (refine x_allocA (t := 88) rfl zImplSpot rfl rfl rfl ?hp (fun blk => ?_); (case hp => exact rfl)))
      | (refine x_k 36 rfl ?_; (refine x_val rfl rfl rfl (r_len tb rfl rfl rfl) ?hp ?_; (case hp => exact rfl)))
      | refine x_nil0 ?_
      | refine x_nil ?_)
          | (refine' c_drawX (id := 7) [(Sum.inl _ : Calm.Plan), (Sum.inl _ : Calm.Plan), (Sum.inl _ : Calm.Plan), (Sum.inl _ : Calm.Plan), (Sum.inl _ : Calm.Plan), (Sum.inl _ : Calm.Plan), (Sum.inl _ : Calm.Plan), (Sum.inl _ : Calm.Plan), (Sum.inl _ : Calm.Plan), (Sum.inl _ : Calm.Plan), (Sum.inl _ : Calm.Plan), (Sum.inl _ : Calm.Plan), (Sum.inl _ : Calm.Plan), (Sum.inl _ : Calm.Plan)] (by kernel_rfl) (by kernel_rfl) (by kernel_rfl) ?_)
          | (refine e_drop0 (e_round (k + 1, c, true) (by simp; omega) ⟨by simp; omega, ?_⟩ ?_ rfl))
          | (refine e_drop0 (e_round (k + 1, b, true) (by simp; omega) ⟨by simp; omega, ?_⟩ ?_ rfl)))
      all_goals first
        | ((repeat' (first | exact sub_nil | refine sub_cons rfl ?_)); done)
        | (rw [hts]; simp [chBet, hlk]; done)
        | (rw [hts]; simp [chBet, hlk]; omega)
  · have hkl : k = Y.length := by omega
    subst hkl
    rw [List.take_length] at hst
    repeat' (first
      | (refine s_g ?_; first
      | (refine s_gd rfl ?_; first | refine s_gd1 rfl rfl zTr ?_ | refine s_gd0 rfl rfl rfl zTr ?_ | refine s_gd00 rfl rfl zTr ?_ | refine s_gp1 rfl rfl rfl (fun hc => ?_) (fun hc => ?_) | refine s_gp0 rfl rfl rfl (fun hc => ?_) (fun hc => ?_) | refine s_gnp1 rfl rfl rfl (fun hc => ?_) (fun hc => ?_) | refine s_gnp0 rfl rfl rfl (fun hc => ?_) (fun hc => ?_) | refine s_gb1 rfl rfl rfl (fun hc => ?_) (fun hc => ?_) | refine s_gb0 rfl rfl rfl (fun hc => ?_) (fun hc => ?_) | refine s_gnb1 rfl rfl rfl (fun hc => ?_) (fun hc => ?_) | refine s_gnb0 rfl rfl rfl (fun hc => ?_) (fun hc => ?_))
      | (refine s_k 0 rfl ?_; refine s_val rfl rfl rfl (r_move rfl rfl) ?_)
      | (refine s_k 23 rfl ?_; first | refine s_val rfl rfl rfl (r_field tb rfl rfl rfl) ?_ | refine s_val rfl rfl rfl (r_fieldS tb rfl rfl rfl) ?_)
      | (refine s_k 8 rfl ?_; first | (refine' s_val rfl rfl rfl (r_ldv rfl rfl ?qm ?qv) ?_; (case qm => (exact zMm)); (case qv => (exact zLe))) | (refine' s_val rfl rfl rfl (r_ldo rfl rfl ?qw (by simp) ?qv) ?_; (case qw => assumption); (case qv => (exact zLe))))
      | (refine s_k 1 rfl ?_; refine s_val rfl rfl rfl (r_assign rfl rfl) ?_)
      | (refine s_k 13 rfl ?_; first | refine s_val rfl rfl rfl (r_lss rfl rfl rfl) ?_ | refine s_val rfl rfl rfl (r_eql rfl rfl rfl) ?_ | refine s_val rfl rfl rfl (r_add rfl rfl rfl (wrap_in (by simp only [lo, hi]; omega))) ?_ | refine s_val rfl rfl rfl (r_sub rfl rfl rfl (wrap_in (by simp only [lo, hi]; omega))) ?_ | refine s_val rfl rfl rfl (r_gtr rfl rfl rfl) ?_)
      | (refine s_k 14 rfl ?_; refine s_val rfl rfl rfl (r_not rfl rfl) ?_)
      | (refine s_k 2 rfl ?_; first | refine s_val rfl rfl rfl (r_pick1 rfl rfl zTr rfl) ?_ | refine s_val rfl rfl rfl (r_pick0 rfl rfl zTr rfl) ?_)
      | (refine s_k 25 rfl ?_; first | refine s_val rfl rfl rfl (r_ixN tb rfl rfl rfl rfl (by omega)) ?_ | refine s_val rfl rfl rfl (r_ixA tb rfl rfl rfl rfl (by omega) (by omega)) ?_ | refine s_val rfl rfl rfl (r_ixO tb rfl rfl rfl rfl (by omega)) ?_)
      | (refine s_k 4 rfl ?_; first | refine s_boxA rfl rfl rfl rfl rfl fun blk => ?_ | refine s_box1 rfl rfl rfl rfl rfl rfl fun blk => ?_)
      | (refine s_k 9 rfl ?_; (first | refine s_st1 tb rfl rfl rfl rfl rfl rfl rfl rfl ?_ | refine s_stA tb rfl rfl rfl rfl (by first | rfl | assumption | (apply Pv.size; assumption)) rfl rfl ?_); (first | refine' st0 ?qs ?_ | refine' st1 ?qs ?_ | refine' st2 ?qs ?_ | refine' st3 ?qs ?_ | refine' st4 ?qs ?_ | refine' st5 ?qs ?_ | refine' st6 ?qs ?_ | refine' st7 ?qs ?_ | refine' st8 ?qs ?_ | refine' st9 ?qs ?_ | refine' st10 ?qs ?_ | refine' st11 ?qs ?_); (case qs => (first | exact set_whole (vs := b.cells.toArray) rfl (by simp [Sp.cells, Value.oneCell']) | exact set_any (vs := b.cells.toArray) (by simp [Sp.cells]) (by simp [Sp.cells, Value.oneCell']) | exact zSet)))
      | (refine s_k 36 rfl ?_; refine s_val rfl rfl rfl (r_len tb rfl rfl rfl) ?_)
      | refine s_nil ?_)
      | (refine c_g ?_; first | refine c_seq ?_ | refine c_region ?_ | (refine c_gc ?_; first | refine c_cond1 rfl zTr ?_ | refine c_cond0 rfl zTr ?_ | refine z_condd1 rfl ?_ | refine z_condd0 rfl ?_ | refine z_conddn1 rfl ?_ | refine z_conddn0 rfl ?_ | refine c_condd rfl (fun hc => ?_) (fun hc => ?_) | refine c_conddn rfl (fun hc => ?_) (fun hc => ?_) | refine c_condn rfl (fun hc => ?_) (fun hc => ?_) | refine c_cond rfl (fun hc => ?_) (fun hc => ?_)) | refine c_block ?_ | refine c_skip ?_ | refine c_exit ?_ | refine c_ret ?_)
      | (refine e_g ?_; first | refine e_then ?_ | refine e_blkn ?_ | refine e_thenx ?_ | refine e_thenr ?_ | refine e_blkr ?_ | refine e_blkx ?_ | refine e_blky rfl ?_)
      | (refine e_ret2 (by simp) rfl (re_cell tb rfl m4 rfl rfl) (re_tmp rfl) fun w hL => ⟨by rw [hst]; rfl, hL.toBelow⟩))
end Go.Proofs.Ytpifngdmlmfnhaa
