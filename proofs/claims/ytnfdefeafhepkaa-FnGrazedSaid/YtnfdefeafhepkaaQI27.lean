import Derived.Test.YtnfdefeafhepkaaQI08
import Derived.Test.YtnfdefeafhepkaaQI16
import Derived.Test.YtnfdefeafhepkaaQI19
import Derived.Test.YtnfdefeafhepkaaQI22
import Derived.Test.YtnfdefeafhepkaaQI25
import Derived.Test.YtnfdefeafhepkaaQI26
set_option linter.unusedVariables false
set_option linter.unusedSimpArgs false
namespace Go.Proofs.Ytnfdefeafhepkaa
open Go.RowKit Mem Wk
attribute [local irreducible] Calls Wk.C Wk.E Wk.X Wk.T Wk.Y Wk.anV Wk.orV Wk.andV Wk.shlV Wk.shrV Calm.wpLex CalmB.wpLex bfsN
theorem Wk.s_gdu {P : Program} {n : Nat} {O : List Nat} {w0 : World} {l : List (Nat × Value)} {L : List (Nat × TypeId × Array Value)} {Q : Exit → Act → World → Prop} {ops : Array Oper} {rest : List Oper} {d : Nat} {op : Op} {ty : TypeId} {ps : String} {af : Array Edge} {j : Nat} {b : Bool} {t : Nat} (hn : Nat.blt d n = true) (hj : (ops[j]?).bind (·.dst) = some t) (ht : lk l t = some undef) (h : Wk.S P ops Q n O w0 rest ((d, undef) :: l) L) : Wk.S P ops Q n O w0 (⟨some d, op, ty, ps, af, some (j, b)⟩ :: rest) l L := fun a w hF hL => by
  have h2 : Region.wanted ⟨some d, op, ty, ps, af, some (j, b)⟩ (yielded ops a.tmps) = false := by simp [Region.wanted, yu hF hj ht]
  unfold wpList
  rw [if_neg (by rw [h2]; simp)]
  exact h _ _ (hF.put hn undef) hL
attribute [local irreducible] Wk.S
def chBet (near : Bool) (r n : Int) : Bool := if near then (decide (0 < n) || (decide (n = 0) && decide (0 < r))) else (decide (0 < r) || (decide (r = 0) && decide (0 < n)))
def chStep (p : Nat → Int) (g : Gt) (st : Sp × Bool) (c : Sp) : Sp × Bool :=
  if p (gi c.x c.y) = 0 then st else if !st.2 || chBet (decide (g.likes = 1)) (p (gi c.x c.y) - p (gi st.1.x st.1.y)) (strD p ⟨g.x, g.y⟩ (ci st.1) - strD p ⟨g.x, g.y⟩ (ci c)) then (c, true) else st
def choAt (p : Nat → Int) (g : Gt) (l : List Sp) : Sp × Bool := l.foldl (chStep p g) (⟨0, 0⟩, false)
def choV (p : Nat → Int) (g : Gt) : Sp × Bool := choAt p g (gtlL p g)
theorem choAt_inR (p : Nat → Int) (g : Gt) : ∀ (l : List Sp) (st : Sp × Bool), inR st.1 → (∀ c ∈ l, inR c) → inR (l.foldl (chStep p g) st).1
  | [], st, h, _ => h
  | c :: l, st, h, hl => by
    rw [List.foldl_cons]
    refine choAt_inR p g l _ ?_ fun d hd => hl d (List.mem_cons_of_mem _ hd)
    unfold chStep
    split
    · exact h
    · split
      · exact hl c List.mem_cons_self
      · exact h
theorem gtlL_inR {p : Nat → Int} {g : Gt} (ha : p 0 ≤ 10) (hb : p 1 ≤ 10) : ∀ c ∈ gtlL p g, inR c := fun c hc => yard_inR ha hb (List.mem_filter.1 hc).1
theorem choAt_in {p : Nat → Int} {g : Gt} {l : List Sp} (hl : ∀ c ∈ l, inR c) (k : Nat) : inR (choAt p g (l.take k)).1 :=
  choAt_inR p g _ _ ⟨by simp, by simp, by simp, by simp⟩ fun c hc => hl c (List.mem_of_mem_take hc)
theorem choAt_succ {p : Nat → Int} {g : Gt} {l : List Sp} {k : Nat} {c : Sp} (h : l[k]? = some c) : choAt p g (l.take (k + 1)) = chStep p g (choAt p g (l.take k)) c := by
  unfold choAt; rw [List.take_add_one, h, List.foldl_append]; rfl
theorem chStep_no {p : Nat → Int} {g : Gt} {st : Sp × Bool} {c : Sp} (h : p (gi c.x c.y) = 0) : chStep p g st c = st := by unfold chStep; rw [if_pos h]
theorem chStep_yes {p : Nat → Int} {g : Gt} {st : Sp × Bool} {c : Sp} (h : ¬ p (gi c.x c.y) = 0) : chStep p g st c = if !st.2 || chBet (decide (g.likes = 1)) (p (gi c.x c.y) - p (gi st.1.x st.1.y)) (strD p ⟨g.x, g.y⟩ (ci st.1) - strD p ⟨g.x, g.y⟩ (ci c)) then (c, true) else st := by
  unfold chStep; rw [if_neg h]
theorem farAtS {D : Nat → Int} {tab : Array Value} {T : TypeId} {g : Nat} (c : Sp) {w : World} (hT : GI .i16 1 D tab) (hD : ∀ j, 0 ≤ D j ∧ D j ≤ 101) (hg : w.heap[g]? = some (.cells tab T (0, 0))) (hc : inR c) :
    Calls Try.prog 142 #[.pointer (some ⟨g, 0, none⟩), .agg #[.int .i8 c.x, .int .i8 c.y]] w fun e w' => e = .returned (.int .i64 (D (ci c) - 1)) ∧ Below w.heap.size w w' := farAt_any D tab T g c.x c.y w hT hD hg ⟨hc.1, hc.2.1⟩ hc.2.2
theorem bSpot0 (w : World) : (Instr.build 66 #[]).run Try.prog w = .ok (.agg #[.int .i8 0, .int .i8 0]) w := by kernel_rfl
set_option maxRecDepth 100000 in
set_option maxHeartbeats 4000000 in
theorem choice_any (p : Nat → Int) (cs : Array Value) (g : Gt) (w : World) (hp : Pv p cs) (hgk : g.ok) (ha : p 0 ≤ 10) (hb : p 1 ≤ 10) (hc : isC (p 0) (p 1) g.x g.y = true) :
    Calls Try.prog 130 #[.agg cs, .agg #[.int .i8 g.x, .int .i8 g.y, .int .i8 g.u, .int .i8 g.v, .int .i16 g.rope, .int .i16 g.eats, .int .i8 g.likes]] w fun e w' => e = .returned (.tuple #[.agg #[.int .i8 (choV p g).1.x, .int .i8 (choV p g).1.y], .bool (choV p g).2]) ∧ Below w.heap.size w w' := by
  have hsz := hp.size
  have hr : inR ⟨g.x, g.y⟩ := isC_range hc
  have hD := strD_val p (o := ⟨g.x, g.y⟩) hr
  have hT : GI .i16 1 (strD p ⟨g.x, g.y⟩) (giA .i16 1 (strD p ⟨g.x, g.y⟩)) := giA_ok .i16 1 _
  have hone : ∀ c ∈ [Sp.mk g.x g.y], inR c := fun c hcm => isC_range (one_isC (o := ⟨g.x, g.y⟩) hc c hcm)
  have hl1 : [Sp.mk g.x g.y].length ≤ 1048576 := by simp
  have hlen := gtlL_len (g := g) ha hb hc
  have hin := gtlL_inR (p := p) (g := g) ha hb
  have hcells := fun w => cellsFor_any p cs g w hp hgk ha hb hc
  have hat := fun k => choAt_in (g := g) hin (p := p) k
  unfold choV
  generalize gtlL p g = Y at *
  refine enter2 Try.func130 rfl rfl rfl (Own.start w) ?_
  repeat' (first | (refine s_g ?_; first | (refine s_gd rfl ?_; first | refine s_gd1 rfl rfl zTr ?_ | refine s_gd0 rfl rfl rfl zTr ?_ | refine s_gd00 rfl rfl zTr ?_) | (refine s_k 0 rfl ?_; refine zsv (r_move rfl rfl) ?_) | (refine s_k 23 rfl ?_; first | refine zsv (r_field tb rfl rfl rfl) ?_ | refine zsv (r_fieldS tb rfl rfl rfl) ?_) | (refine s_k 8 rfl ?_; first | (refine' s_val rfl rfl rfl (r_ldv rfl rfl ?qm ?qv) ?_; (case qm => (exact zMm)); (case qv => (exact zLe))) | (refine' s_val rfl rfl rfl (r_ldo rfl rfl ?qw (by simp) ?qv) ?_; (case qw => assumption); (case qv => (exact zLe)))) | (refine s_k 1 rfl ?_; refine zsv (r_assign rfl rfl) ?_) | (refine s_k 13 rfl ?_; first | refine zsv (r_lss rfl rfl rfl) ?_ | refine zsv (r_eql rfl rfl rfl) ?_ | refine zsv (r_add rfl rfl rfl zWr) ?_ | refine zsv (r_sub rfl rfl rfl zWr) ?_ | refine zsv (r_gtr rfl rfl rfl) ?_) | (refine s_k 35 rfl ?_; first | (refine s_call Try.func140 (by kernel_rfl) rfl rfl rfl rfl rfl rfl (fun w hL => far_any p cs [⟨g.x, g.y⟩] _ 0 1 _ hp hone hl1 (one_slA ⟨g.x, g.y⟩ (hL.at_ m0))) ?_) | (refine s_callN Try.func141 (by kernel_rfl) rfl rfl rfl rfl rfl rfl (fun w hL => hcells w) fun gy k capy cury hAy => ?_)) | (refine s_k 14 rfl ?_; refine zsv (r_not rfl rfl) ?_) | (refine s_k 2 rfl ?_; first | refine zsv (r_pick1 rfl rfl zTr rfl) ?_ | refine zsv (r_pick0 rfl rfl zTr rfl) ?_) | (refine s_k 25 rfl ?_; first | refine zsv (r_ixN tb rfl rfl rfl rfl (by omega)) ?_ | refine zsv (r_ixA tb rfl rfl rfl rfl (by omega) (by omega)) ?_ | refine zsv (r_ixO tb rfl rfl rfl rfl (by omega)) ?_) | (refine s_k 4 rfl ?_; first | refine s_boxA rfl rfl rfl rfl rfl fun blk => ?_ | refine s_box1 rfl rfl rfl rfl rfl rfl fun blk => ?_) | (refine s_k 9 rfl ?_; (first | refine s_st1 tb rfl rfl rfl rfl rfl rfl rfl rfl ?_ | refine s_stA tb rfl rfl rfl rfl zSz rfl rfl ?_); (first | refine' st0 ?qs ?_ | refine' st1 ?qs ?_ | refine' st2 ?qs ?_ | refine' st3 ?qs ?_ | refine' st4 ?qs ?_ | refine' st5 ?qs ?_ | refine' st6 ?qs ?_ | refine' st7 ?qs ?_ | refine' st8 ?qs ?_ | refine' st9 ?qs ?_ | refine' st10 ?qs ?_ | refine' st11 ?qs ?_); (case qs => (first | exact setG (giA_ok _ _ _) zSt_ok.size | exact zSet))) | (refine s_k 3 rfl ?_; first | refine s_allocA (t := 66) rfl zImplSpot rfl rfl rfl fun blk => ?_ | refine s_allocA (t := 186) rfl zStepsV rfl rfl rfl fun blk => ?_) | (refine s_k 36 rfl ?_; refine zsv (r_len tb rfl rfl rfl) ?_) | (refine s_k 5 rfl ?_; refine zsv (r_build rfl rfl (fun w => bSpot0 w)) ?_) | (refine s_k 6 rfl ?_; refine s_bsl rfl rfl (fun w => slSpot1 _ _ w) rfl rfl rfl fun blk => ?_) | refine s_nil ?_) | (refine c_g ?_; first | refine c_seq ?_ | refine c_region ?_ | (refine c_gc ?_; first | refine c_cond1 rfl zTr ?_ | refine c_cond0 rfl zTr ?_) | refine c_block ?_ | refine c_skip ?_ | refine c_exit ?_ | refine c_ret ?_) | (refine e_g ?_; first | refine e_then ?_ | refine e_blkn ?_ | refine e_thenx ?_ | refine e_thenr ?_ | refine e_blkr ?_ | refine e_blkx ?_ | refine e_blky rfl ?_))
  obtain rfl := hAy.cnt
  rename_i b2 b3 b4 b16 b6
  refine c_loop (ι := Nat × Sp × Bool) (fun i => Y.length - i.1) (fun i => i.1 ≤ Y.length ∧ choAt p g (Y.take i.1) = i.2) (fun i => [(23, .int .i64 (i.1 : Int)), (22, .int .i64 (Y.length : Int)), (21, .slice (some ⟨gy, 0, none⟩) Y.length capy), (8, .bool i.2.2), (7, .pointer (some ⟨blk, 0, none⟩)), (6, .pointer (some ⟨b6, 0, none⟩)), (4, .pointer (some ⟨b4, 0, none⟩)), (3, .pointer (some ⟨b3, 0, none⟩)), (2, .pointer (some ⟨b2, 0, none⟩))]) (fun i => [(gy, 66, cury), (blk, 66, #[.int .i8 i.2.1.x, .int .i8 i.2.1.y]), (b6, 186, giA .i16 1 (strD p ⟨g.x, g.y⟩)), (b16, 66, #[.int .i8 g.x, .int .i8 g.y]), (b4, 66, #[.int .i8 0, .int .i8 0]), (b3, 68, #[.int .i8 g.x, .int .i8 g.y, .int .i8 g.u, .int .i8 g.v, .int .i16 g.rope, .int .i16 g.eats, .int .i8 g.likes]), (b2, 36, cs)]) (0, ⟨0, 0⟩, false) ⟨by omega, rfl⟩ ?hs rfl ?_
  case hs => (repeat' (first | exact sub_nil | refine sub_cons rfl ?_))
  rintro ⟨k, b, fnd⟩ ⟨hk, hst⟩
  simp only at hk hst ⊢
  by_cases hlt : k < Y.length
  · have hx : Y[k]? = some Y[k] := List.getElem?_eq_getElem hlt
    have hcr := hin _ (List.getElem_mem hlt)
    have hsp := hAy.spot hx
    have hts := choAt_succ (p := p) (g := g) hx
    have hbr := hat k
    rw [hst] at hbr hts
    simp only at hbr
    generalize Y[k] = c at *
    have hgc := gi_lt ⟨hcr.1, hcr.2.1⟩ hcr.2.2
    have h16 := hp.i16 _ hgc.1 hgc.2
    have hgb := gi_lt ⟨hbr.1, hbr.2.1⟩ hbr.2.2
    have h16b := hp.i16 _ hgb.1 hgb.2
    have hDc := hD (ci c)
    have hDb := hD (ci b)
    by_cases hz : p (gi c.x c.y) = 0
    · rw [chStep_no hz] at hts
      repeat' (first | (refine s_g ?_; first | (refine s_gd rfl ?_; first | refine s_gd1 rfl rfl zTr ?_ | refine s_gd0 rfl rfl rfl zTr ?_ | refine s_gd00 rfl rfl zTr ?_) | (refine s_k 0 rfl ?_; refine zsv (r_move rfl rfl) ?_) | (refine s_k 23 rfl ?_; first | refine zsv (r_field tb rfl rfl rfl) ?_ | refine zsv (r_fieldS tb rfl rfl rfl) ?_) | (refine s_k 8 rfl ?_; first | refine zsv (r_ldN tb rfl rfl m0 rfl hsp.1 hsp.2) ?_ | (refine' s_val rfl rfl rfl (r_ldv rfl rfl ?qm ?qv) ?_; (case qm => (exact zMm)); (case qv => (exact zLe))) | (refine' s_val rfl rfl rfl (r_ldo rfl rfl ?qw (by simp) ?qv) ?_; (case qw => assumption); (case qv => (exact zLe)))) | (refine s_k 1 rfl ?_; refine zsv (r_assign rfl rfl) ?_) | (refine s_k 13 rfl ?_; first | refine zsv (r_lss rfl rfl rfl) ?_ | refine zsv (r_eql rfl rfl rfl) ?_ | refine zsv (r_add rfl rfl rfl zWr) ?_ | refine zsv (r_sub rfl rfl rfl zWr) ?_ | refine zsv (r_gtr rfl rfl rfl) ?_) | (refine s_k 35 rfl ?_; (refine s_call Try.func121 (by kernel_rfl) rfl rfl rfl rfl rfl rfl (fun w hL => grass_any p cs c.x c.y _ hp ⟨hcr.1, hcr.2.1⟩ hcr.2.2) ?_)) | (refine s_k 14 rfl ?_; refine zsv (r_not rfl rfl) ?_) | (refine s_k 2 rfl ?_; first | refine zsv (r_pick1 rfl rfl zTr rfl) ?_ | refine zsv (r_pick0 rfl rfl zTr rfl) ?_) | (refine s_k 25 rfl ?_; first | refine zsv (r_ixO tb rfl rfl rfl rfl hlt) ?_ | refine zsv (r_ixN tb rfl rfl rfl rfl (by omega)) ?_ | refine zsv (r_ixA tb rfl rfl rfl rfl (by omega) (by omega)) ?_ | refine zsv (r_ixO tb rfl rfl rfl rfl (by omega)) ?_) | (refine s_k 4 rfl ?_; first | refine s_boxA rfl rfl rfl rfl rfl fun blk => ?_ | refine s_box1 rfl rfl rfl rfl rfl rfl fun blk => ?_) | (refine s_k 9 rfl ?_; (first | refine s_st1 tb rfl rfl rfl rfl rfl rfl rfl rfl ?_ | refine s_stA tb rfl rfl rfl rfl zSz rfl rfl ?_); (first | refine' st0 ?qs ?_ | refine' st1 ?qs ?_ | refine' st2 ?qs ?_ | refine' st3 ?qs ?_ | refine' st4 ?qs ?_ | refine' st5 ?qs ?_ | refine' st6 ?qs ?_ | refine' st7 ?qs ?_ | refine' st8 ?qs ?_ | refine' st9 ?qs ?_ | refine' st10 ?qs ?_ | refine' st11 ?qs ?_); (case qs => (first | exact set_whole (vs := c.cells.toArray) rfl (by simp [Sp.cells, Value.oneCell']) | exact zSet))) | (refine s_k 3 rfl ?_; refine s_allocA (t := 66) rfl zImplSpot rfl rfl rfl fun blk => ?_) | (refine s_k 36 rfl ?_; refine zsv (r_len tb rfl rfl rfl) ?_) | refine s_nil ?_) | (refine c_g ?_; first | refine c_seq ?_ | refine c_region ?_ | (refine c_gc ?_; first | refine c_cond1 rfl zTr ?_ | refine c_cond0 rfl zTr ?_) | refine c_block ?_ | refine c_skip ?_ | refine c_exit ?_ | refine c_ret ?_) | (refine e_g ?_; first | refine e_then ?_ | refine e_blkn ?_ | refine e_thenx ?_ | refine e_thenr ?_ | refine e_blkr ?_ | refine e_blkx ?_ | refine e_blky rfl ?_) | (refine e_drop0 (e_round (k + 1, b, fnd) (by simp; omega) ⟨by simp; omega, hts⟩ ?_ rfl)))
      all_goals (repeat' (first | exact sub_nil | refine sub_cons rfl ?_))
    · rw [chStep_yes hz] at hts
      simp only at hts
      generalize hre : p (gi c.x c.y) - p (gi b.x b.y) = r at *
      generalize hne : strD p ⟨g.x, g.y⟩ (ci b) - strD p ⟨g.x, g.y⟩ (ci c) = n at *
      have hn2 : strD p ⟨g.x, g.y⟩ (ci b) - 1 - (strD p ⟨g.x, g.y⟩ (ci c) - 1) = n := by omega
      by_cases hlk : g.likes = 1
      all_goals
        (cases fnd
         case' true =>
          rcases Int.lt_trichotomy r 0 with hr1 | hr1 | hr1
          all_goals rcases Int.lt_trichotomy n 0 with hn1 | hn1 | hn1)
      all_goals
        have e1 : decide (0 < r) = decide (0 < r) := rfl
        repeat' (first | (refine s_g ?_; first | (refine s_gd rfl ?_; first | refine s_gd1 rfl rfl zTr ?_ | refine s_gd0 rfl rfl rfl zTr ?_ | refine s_gd00 rfl rfl zTr ?_ | refine s_gdu rfl rfl rfl ?_) | (refine s_k 0 rfl ?_; refine zsv (r_move rfl rfl) ?_) | (refine s_k 23 rfl ?_; first | refine zsv (r_field tb rfl rfl rfl) ?_ | refine zsv (r_fieldS tb rfl rfl rfl) ?_) | (refine s_k 8 rfl ?_; first | refine zsv (r_ldN tb rfl rfl m0 rfl hsp.1 hsp.2) ?_ | (refine' s_val rfl rfl rfl (r_ldv rfl rfl ?qm ?qv) ?_; (case qm => (exact zMm)); (case qv => (exact zLe))) | (refine' s_val rfl rfl rfl (r_ldo rfl rfl ?qw (by simp) ?qv) ?_; (case qw => assumption); (case qv => (exact zLe)))) | (refine s_k 1 rfl ?_; refine zsv (r_assign rfl rfl) ?_) | (refine s_k 13 rfl ?_; first | refine zsv (r_lss rfl rfl rfl) ?_ | refine zsv (r_eql rfl rfl rfl) ?_ | refine zsv (r_add rfl rfl rfl zWr) ?_ | refine zsv (r_sub rfl rfl rfl zWr) ?_ | refine zsv (r_gtr rfl rfl rfl) ?_) | (refine s_k 35 rfl ?_; first | (refine s_call Try.func121 (by kernel_rfl) rfl rfl rfl rfl rfl rfl (fun w hL => grass_any p cs c.x c.y _ hp ⟨hcr.1, hcr.2.1⟩ hcr.2.2) ?_) | (refine s_call Try.func121 (by kernel_rfl) rfl rfl rfl rfl rfl rfl (fun w hL => grass_any p cs b.x b.y _ hp ⟨hbr.1, hbr.2.1⟩ hbr.2.2) ?_) | (refine s_call Try.func142 (by kernel_rfl) rfl rfl rfl rfl rfl rfl (fun w hL => farAtS c hT hD (hL.at_ m3) hcr) ?_) | (refine s_call Try.func142 (by kernel_rfl) rfl rfl rfl rfl rfl rfl (fun w hL => farAtS b hT hD (hL.at_ m3) hbr) ?_)) | (refine s_k 14 rfl ?_; refine zsv (r_not rfl rfl) ?_) | (refine s_k 2 rfl ?_; first | refine zsv (r_pick1 rfl rfl zTr rfl) ?_ | refine zsv (r_pick0 rfl rfl zTr rfl) ?_) | (refine s_k 25 rfl ?_; first | refine zsv (r_ixO tb rfl rfl rfl rfl hlt) ?_ | refine zsv (r_ixN tb rfl rfl rfl rfl (by omega)) ?_ | refine zsv (r_ixA tb rfl rfl rfl rfl (by omega) (by omega)) ?_ | refine zsv (r_ixO tb rfl rfl rfl rfl (by omega)) ?_) | (refine s_k 4 rfl ?_; first | refine s_boxA rfl rfl rfl rfl rfl fun blk => ?_ | refine s_box1 rfl rfl rfl rfl rfl rfl fun blk => ?_) | (refine s_k 9 rfl ?_; (first | refine s_st1 tb rfl rfl rfl rfl rfl rfl rfl rfl ?_ | refine s_stA tb rfl rfl rfl rfl zSz rfl rfl ?_); (first | refine' st0 ?qs ?_ | refine' st1 ?qs ?_ | refine' st2 ?qs ?_ | refine' st3 ?qs ?_ | refine' st4 ?qs ?_ | refine' st5 ?qs ?_ | refine' st6 ?qs ?_ | refine' st7 ?qs ?_ | refine' st8 ?qs ?_ | refine' st9 ?qs ?_ | refine' st10 ?qs ?_ | refine' st11 ?qs ?_); (case qs => (first | exact set_whole (vs := c.cells.toArray) rfl (by simp [Sp.cells, Value.oneCell']) | exact set_any (vs := c.cells.toArray) (by simp [Sp.cells]) (by simp [Sp.cells, Value.oneCell']) | exact zSet))) | (refine s_k 3 rfl ?_; refine s_allocA (t := 66) rfl zImplSpot rfl rfl rfl fun blk => ?_) | (refine s_k 36 rfl ?_; refine zsv (r_len tb rfl rfl rfl) ?_) | refine s_nil ?_) | (refine c_g ?_; first | refine c_seq ?_ | refine c_region ?_ | (refine c_gc ?_; first | refine c_cond1 rfl zTr ?_ | refine c_cond0 rfl zTr ?_) | refine c_block ?_ | refine c_skip ?_ | refine c_exit ?_ | refine c_ret ?_) | (refine e_g ?_; first | refine e_then ?_ | refine e_blkn ?_ | refine e_thenx ?_ | refine e_thenr ?_ | refine e_blkr ?_ | refine e_blkx ?_ | refine e_blky rfl ?_) | (refine x_g ?_; first | (refine x_gd rfl ?_; first | refine x_gd1 rfl rfl zTr ?_ | (refine x_gd0 rfl rfl rfl zTr ?hp ?_; (case hp => exact rfl))) | (refine x_k 0 rfl ?_; (refine zxv (r_move rfl rfl) ?hp ?_; (case hp => exact rfl))) | (refine x_k 23 rfl ?_; first | (refine zxv (r_field tb rfl rfl rfl) ?hp ?_; (case hp => exact rfl)) | (refine zxv (r_fieldS tb rfl rfl rfl) ?hp ?_; (case hp => exact rfl))) | (refine x_k 8 rfl ?_; first | (refine zxv (r_ldN tb rfl rfl m0 rfl hsp.1 hsp.2) ?hp ?_; (case hp => exact rfl)) | (refine' x_val rfl rfl rfl (r_ldv rfl rfl ?qm ?qv) ?hp ?_; (case qm => (exact zMm)); (case qv => (exact zLe)); (case hp => exact rfl)) | (refine' x_val rfl rfl rfl (r_ldo rfl rfl ?qw (by simp) ?qv) ?hp ?_; (case qw => assumption); (case qv => (exact zLe)); (case hp => exact rfl))) | (refine x_k 1 rfl ?_; (refine zxv (r_assign rfl rfl) ?hp ?_; (case hp => exact rfl))) | (refine x_k 13 rfl ?_; first | (refine zxv (r_lss rfl rfl rfl) ?hp ?_; (case hp => exact rfl)) | (refine zxv (r_eql rfl rfl rfl) ?hp ?_; (case hp => exact rfl)) | (refine zxv (r_add rfl rfl rfl zWr) ?hp ?_; (case hp => exact rfl)) | (refine zxv (r_sub rfl rfl rfl zWr) ?hp ?_; (case hp => exact rfl)) | (refine zxv (r_gtr rfl rfl rfl) ?hp ?_; (case hp => exact rfl))) | (refine x_k 35 rfl ?_; first | (refine x_call Try.func121 (by kernel_rfl) rfl rfl rfl rfl rfl rfl (fun w hL => grass_any p cs c.x c.y _ hp ⟨hcr.1, hcr.2.1⟩ hcr.2.2) ?hp ?_; (case hp => exact rfl)) | (refine x_call Try.func121 (by kernel_rfl) rfl rfl rfl rfl rfl rfl (fun w hL => grass_any p cs b.x b.y _ hp ⟨hbr.1, hbr.2.1⟩ hbr.2.2) ?hp ?_; (case hp => exact rfl)) | (refine x_call Try.func142 (by kernel_rfl) rfl rfl rfl rfl rfl rfl (fun w hL => farAtS c hT hD (hL.at_ m3) hcr) ?hp ?_; (case hp => exact rfl)) | (refine x_call Try.func142 (by kernel_rfl) rfl rfl rfl rfl rfl rfl (fun w hL => farAtS b hT hD (hL.at_ m3) hbr) ?hp ?_; (case hp => exact rfl))) | (refine x_k 14 rfl ?_; (refine zxv (r_not rfl rfl) ?hp ?_; (case hp => exact rfl))) | (refine x_k 2 rfl ?_; first | (refine zxv (r_pick1 rfl rfl zTr rfl) ?hp ?_; (case hp => exact rfl)) | (refine zxv (r_pick0 rfl rfl zTr rfl) ?hp ?_; (case hp => exact rfl))) | (refine x_k 25 rfl ?_; first | (refine zxv (r_ixO tb rfl rfl rfl rfl hlt) ?hp ?_; (case hp => exact rfl)) | (refine zxv (r_ixN tb rfl rfl rfl rfl (by omega)) ?hp ?_; (case hp => exact rfl)) | (refine zxv (r_ixA tb rfl rfl rfl rfl (by omega) (by omega)) ?hp ?_; (case hp => exact rfl)) | (refine zxv (r_ixO tb rfl rfl rfl rfl (by omega)) ?hp ?_; (case hp => exact rfl))) | (refine x_k 4 rfl ?_; (refine x_boxA rfl rfl rfl rfl rfl ?hp (fun blk => ?_); (case hp => exact rfl))) | (refine x_k 9 rfl ?_; first | (refine' x_putA0 tb rfl rfl rfl rfl zSz ?qs zSz rfl rfl ?hp ?_; (case qs => (first | exact set_whole (vs := c.cells.toArray) rfl (by simp [Sp.cells, Value.oneCell']) | exact set_any (vs := c.cells.toArray) (by simp [Sp.cells]) (by simp [Sp.cells, Value.oneCell']) | exact zSet)); (case hp => exact rfl)) | (refine' x_putA1 tb rfl rfl rfl rfl zSz ?qs zSz rfl rfl ?hp ?_; (case qs => (first | exact set_whole (vs := c.cells.toArray) rfl (by simp [Sp.cells, Value.oneCell']) | exact set_any (vs := c.cells.toArray) (by simp [Sp.cells]) (by simp [Sp.cells, Value.oneCell']) | exact zSet)); (case hp => exact rfl)) | (refine' x_putA2 tb rfl rfl rfl rfl zSz ?qs zSz rfl rfl ?hp ?_; (case qs => (first | exact set_whole (vs := c.cells.toArray) rfl (by simp [Sp.cells, Value.oneCell']) | exact set_any (vs := c.cells.toArray) (by simp [Sp.cells]) (by simp [Sp.cells, Value.oneCell']) | exact zSet)); (case hp => exact rfl))) | (refine x_k 3 rfl ?_; (refine x_allocA (t := 66) rfl zImplSpot rfl rfl rfl ?hp (fun blk => ?_); (case hp => exact rfl))) | (refine x_k 36 rfl ?_; (refine zxv (r_len tb rfl rfl rfl) ?hp ?_; (case hp => exact rfl))) | refine x_nil0 ?_ | refine x_nil ?_) | (refine' c_drawX (id := 7) [(.inl _ : zQ), (.inl _ : zQ), (.inl _ : zQ), (.inl _ : zQ), (.inl _ : zQ), (.inl _ : zQ), (.inl _ : zQ), (.inl _ : zQ), (.inl _ : zQ), (.inl _ : zQ), (.inl _ : zQ), (.inl _ : zQ), (.inl _ : zQ), (.inl _ : zQ)] (by kernel_rfl) (by kernel_rfl) (by kernel_rfl) ?_) | (refine e_drop0 (e_round (k + 1, c, true) (by simp; omega) ⟨by simp; omega, ?_⟩ ?_ rfl)) | (refine e_drop0 (e_round (k + 1, b, true) (by simp; omega) ⟨by simp; omega, ?_⟩ ?_ rfl)))
      all_goals first
        | ((repeat' (first | exact sub_nil | refine sub_cons rfl ?_)); done)
        | (rw [hts]; simp [chBet, hlk]; done)
        | (rw [hts]; simp [chBet, hlk]; omega)
  · have hkl : k = Y.length := by omega
    subst hkl
    rw [List.take_length] at hst
    repeat' (first | (refine s_g ?_; first | (refine s_gd rfl ?_; first | refine s_gd1 rfl rfl zTr ?_ | refine s_gd0 rfl rfl rfl zTr ?_ | refine s_gd00 rfl rfl zTr ?_) | (refine s_k 0 rfl ?_; refine zsv (r_move rfl rfl) ?_) | (refine s_k 23 rfl ?_; first | refine zsv (r_field tb rfl rfl rfl) ?_ | refine zsv (r_fieldS tb rfl rfl rfl) ?_) | (refine s_k 8 rfl ?_; first | (refine' s_val rfl rfl rfl (r_ldv rfl rfl ?qm ?qv) ?_; (case qm => (exact zMm)); (case qv => (exact zLe))) | (refine' s_val rfl rfl rfl (r_ldo rfl rfl ?qw (by simp) ?qv) ?_; (case qw => assumption); (case qv => (exact zLe)))) | (refine s_k 1 rfl ?_; refine zsv (r_assign rfl rfl) ?_) | (refine s_k 13 rfl ?_; first | refine zsv (r_lss rfl rfl rfl) ?_ | refine zsv (r_eql rfl rfl rfl) ?_ | refine zsv (r_add rfl rfl rfl zWr) ?_ | refine zsv (r_sub rfl rfl rfl zWr) ?_ | refine zsv (r_gtr rfl rfl rfl) ?_) | (refine s_k 14 rfl ?_; refine zsv (r_not rfl rfl) ?_) | (refine s_k 2 rfl ?_; first | refine zsv (r_pick1 rfl rfl zTr rfl) ?_ | refine zsv (r_pick0 rfl rfl zTr rfl) ?_) | (refine s_k 25 rfl ?_; first | refine zsv (r_ixN tb rfl rfl rfl rfl (by omega)) ?_ | refine zsv (r_ixA tb rfl rfl rfl rfl (by omega) (by omega)) ?_ | refine zsv (r_ixO tb rfl rfl rfl rfl (by omega)) ?_) | (refine s_k 4 rfl ?_; first | refine s_boxA rfl rfl rfl rfl rfl fun blk => ?_ | refine s_box1 rfl rfl rfl rfl rfl rfl fun blk => ?_) | (refine s_k 9 rfl ?_; (first | refine s_st1 tb rfl rfl rfl rfl rfl rfl rfl rfl ?_ | refine s_stA tb rfl rfl rfl rfl zSz rfl rfl ?_); (first | refine' st0 ?qs ?_ | refine' st1 ?qs ?_ | refine' st2 ?qs ?_ | refine' st3 ?qs ?_ | refine' st4 ?qs ?_ | refine' st5 ?qs ?_ | refine' st6 ?qs ?_ | refine' st7 ?qs ?_ | refine' st8 ?qs ?_ | refine' st9 ?qs ?_ | refine' st10 ?qs ?_ | refine' st11 ?qs ?_); (case qs => (first | exact set_whole (vs := b.cells.toArray) rfl (by simp [Sp.cells, Value.oneCell']) | exact set_any (vs := b.cells.toArray) (by simp [Sp.cells]) (by simp [Sp.cells, Value.oneCell']) | exact zSet))) | (refine s_k 36 rfl ?_; refine zsv (r_len tb rfl rfl rfl) ?_) | refine s_nil ?_) | (refine c_g ?_; first | refine c_seq ?_ | refine c_region ?_ | (refine c_gc ?_; first | refine c_cond1 rfl zTr ?_ | refine c_cond0 rfl zTr ?_) | refine c_block ?_ | refine c_skip ?_ | refine c_exit ?_ | refine c_ret ?_) | (refine e_g ?_; first | refine e_then ?_ | refine e_blkn ?_ | refine e_thenx ?_ | refine e_thenr ?_ | refine e_blkr ?_ | refine e_blkx ?_ | refine e_blky rfl ?_) | (refine e_ret2 (by simp) rfl (re_cell tb rfl m4 rfl rfl) (re_tmp rfl) fun w hL => ⟨by rw [hst]; rfl, hL.toBelow⟩))
end Go.Proofs.Ytnfdefeafhepkaa
namespace Go.Proofs.Ytnfdefeafhepkaa
open Go.RowKit Mem Wk
attribute [local irreducible] Calls Wk.S Wk.C Wk.E Wk.X Wk.T Wk.Y Wk.anV Wk.orV Wk.andV Wk.shlV Wk.shrV Calm.wpLex CalmB.wpLex bfsN putP
def othS (h : Hd) : Sp := ⟨nextX h.x (sdOf h.s), nextY h.y (sdOf h.s)⟩
theorem isH_facts {p : Nat → Int} {h : Hd} (hh : isH p h = true) : inR ⟨h.x, h.y⟩ ∧ inR (othS h) := ⟨isC_range (isH_cells hh).1, isC_range (isH_cells hh).2⟩
end Go.Proofs.Ytnfdefeafhepkaa
namespace Go.Proofs.Ytnfdefeafhepkaa
open Go Go.RowKit Mem Wk

theorem bvw (z : BitVec 16) : IntKind.u16.wrap ((z.toNat : Nat) : Int) = (z.toNat : Int) := by
  have := z.isLt
  exact wrap_in (by simp only [Wk.lo, Wk.hi]; omega)
theorem bvo (z : BitVec 16) : BitVec.ofInt 16 ((z.toNat : Nat) : Int) = z := by
  rw [BitVec.ofInt_natCast]; simp
theorem sub_iff {v m : Int} : bits .andNot .u16 v m = 0 ↔ BitVec.ofInt 16 v &&& ~~~BitVec.ofInt 16 m = 0#16 := by
  show IntKind.u16.wrap (((BitVec.ofInt 16 v &&& ~~~BitVec.ofInt 16 m).toNat : Nat) : Int) = 0 ↔ _
  rw [bvw]
  constructor
  · intro h; apply BitVec.eq_of_toNat_eq; simpa using h
  · intro h; rw [h]; rfl
theorem put_sub {v s m : Int} (hv : bits .andNot .u16 v m = 0) (hs : bits .andNot .u16 s m = 0) : bits .andNot .u16 (orV .u16 (anV .u16 v s) s) m = 0 := by
  rw [sub_iff] at hv hs ⊢
  have e1 : BitVec.ofInt 16 (anV .u16 v s) = BitVec.ofInt 16 v &&& ~~~BitVec.ofInt 16 s := by
    show BitVec.ofInt 16 (IntKind.u16.wrap (((BitVec.ofInt 16 v &&& ~~~BitVec.ofInt 16 s).toNat : Nat) : Int)) = _
    rw [bvw, bvo]
  have e2 : BitVec.ofInt 16 (orV .u16 (anV .u16 v s) s) = BitVec.ofInt 16 (anV .u16 v s) ||| BitVec.ofInt 16 s := by
    show BitVec.ofInt 16 (IntKind.u16.wrap (((BitVec.ofInt 16 (anV .u16 v s) ||| BitVec.ofInt 16 s).toNat : Nat) : Int)) = _
    rw [bvw, bvo]
  rw [e2, e1]
  generalize BitVec.ofInt 16 v = V at *
  generalize BitVec.ofInt 16 s = S at *
  generalize BitVec.ofInt 16 m = M at *
  apply BitVec.eq_of_getLsbD_eq
  intro i hi
  have h1 := congrArg (fun z : BitVec 16 => z.getLsbD i) hv
  have h2 := congrArg (fun z : BitVec 16 => z.getLsbD i) hs
  simp only [BitVec.getLsbD_and, BitVec.getLsbD_not, BitVec.getLsbD_or, BitVec.getLsbD_zero, hi, decide_true, Bool.true_and] at h1 h2 ⊢
  revert h1 h2
  generalize V.getLsbD i = a
  generalize S.getLsbD i = b
  generalize M.getLsbD i = c
  cases a <;> cases b <;> cases c <;> simp
theorem and_0 (m : Int) : bits .andNot .u16 0 m = 0 := by
  rw [sub_iff]
  have e : BitVec.ofInt 16 0 = 0#16 := rfl
  rw [e]; simp
set_option maxRecDepth 100000 in
theorem eM_bit : ∀ a b y x : Fin 5, isC ((a.val : Int) + 1) ((b.val : Int) + 1) (x.val : Int) (y.val : Int) = true → isC ((a.val : Int) + 1) ((b.val : Int) + 1) ((x.val : Int) + 1) (y.val : Int) = true → bits .andNot .u16 (shlV .u16 1 (x.val : Int)) (eM ((a.val : Int) + 1) ((b.val : Int) + 1) (y.val : Int) 10) = 0 := by
  decide +kernel
set_option maxRecDepth 100000 in
theorem sM_bit : ∀ a b y x : Fin 5, isC ((a.val : Int) + 1) ((b.val : Int) + 1) (x.val : Int) (y.val : Int) = true → isC ((a.val : Int) + 1) ((b.val : Int) + 1) (x.val : Int) ((y.val : Int) + 1) = true → bits .andNot .u16 (shlV .u16 1 (x.val : Int)) (sM ((a.val : Int) + 1) ((b.val : Int) + 1) (y.val : Int) 10) = 0 := by
  decide +kernel
theorem fin5 {n : Int} (h1 : 0 ≤ n) (h2 : n < 5) : ∃ k : Fin 5, n = (k.val : Int) := ⟨⟨n.toNat, by omega⟩, by simp; omega⟩
def small (p : Nat → Int) : Prop := (1 ≤ p 0 ∧ p 0 ≤ 5) ∧ 1 ≤ p 1 ∧ p 1 ≤ 5
theorem valid_parts {p : Nat → Int} : validP p = true ↔ inB (p 0) 1 10 = true ∧ inB (p 1) 1 10 = true ∧ ∀ y, y < 10 → (∀ x, x < 10 → gOk p y x = true) ∧ eOk p y = true ∧ sOk p y = true := by
  unfold validP rowOk
  simp only [Bool.and_eq_true, all_range]
theorem valid_put {p : Nat → Int} (hv : validP p = true) (hs : small p) {x y : Int} {s : Bool} (hh : isH p ⟨x, y, s⟩ = true) : validP (putP p x y s true) = true := by
  obtain ⟨hr, h1, h2⟩ := isH_facts hh
  have hk := fun i (hi : i < 102) => putP_keep p x y s true hi
  rw [valid_parts] at hv ⊢
  rw [hk 0 (by omega), hk 1 (by omega)]
  obtain ⟨hW, hH, hrow⟩ := hv
  refine ⟨hW, hH, fun yy hyy => ?_⟩
  obtain ⟨hg, he, hso⟩ := hrow yy hyy
  refine ⟨fun xx hxx => ?_, ?_, ?_⟩
  · have := hg xx hxx
    unfold gOk at this ⊢
    rw [hk 0 (by omega), hk 1 (by omega), hk _ (by omega)]
    exact this
  · unfold eOk at he ⊢
    rw [hk 0 (by omega), hk 1 (by omega)]
    cases s
    case true =>
      unfold putP
      rw [if_pos rfl, upd_ne _ _ (by omega)]
      exact he
    case false =>
      have hc := isH_cells hh
      unfold putP
      rw [if_neg (by simp)]
      by_cases e : 102 + yy = 102 + y.toNat
      · rw [e, upd_at]
        obtain ⟨a, ea⟩ := fin5 (n := p 0 - 1) (by have := hs.1; omega) (by have := hs.1; omega)
        obtain ⟨b, eb⟩ := fin5 (n := p 1 - 1) (by have := hs.2; omega) (by have := hs.2; omega)
        have hcx := hc.1
        unfold isC inB at hcx
        simp at hcx
        have hs1 := hs.1
        have hs2 := hs.2
        obtain ⟨xf, ex⟩ := fin5 (n := x) (by omega) (by omega)
        obtain ⟨yf, ey⟩ := fin5 (n := y) (by omega) (by omega)
        have e0 : p 0 = (a.val : Int) + 1 := by omega
        have e1 : p 1 = (b.val : Int) + 1 := by omega
        have hyy : (yy : Int) = y := by omega
        have hb := eM_bit a b yf xf (by rw [← e0, ← e1, ← ex, ← ey]; exact hc.1) (by
          have := hc.2
          simp [sdOf, nextX, nextY] at this
          rw [← e0, ← e1, ← ex, ← ey]; exact this)
        rw [← e0, ← e1, ← ex, ← ey] at hb
        apply decide_eq_true
        have he2 := of_decide_eq_true he
        rw [e] at he2
        unfold rowV
        rw [if_pos rfl]
        rw [hyy] at he2 ⊢
        exact put_sub he2 hb
      · rw [upd_ne _ _ e]; exact he
  · unfold sOk at hso ⊢
    rw [hk 0 (by omega), hk 1 (by omega)]
    cases s
    case false =>
      unfold putP
      rw [if_neg (by simp), upd_ne _ _ (by have := hr.2.2.2; have := hr.2.2.1; simp only at *; omega)]
      exact hso
    case true =>
      have hc := isH_cells hh
      unfold putP
      rw [if_pos rfl]
      by_cases e : 112 + yy = 112 + y.toNat
      · rw [e, upd_at]
        obtain ⟨a, ea⟩ := fin5 (n := p 0 - 1) (by have := hs.1; omega) (by have := hs.1; omega)
        obtain ⟨b, eb⟩ := fin5 (n := p 1 - 1) (by have := hs.2; omega) (by have := hs.2; omega)
        have hcx := hc.1
        unfold isC inB at hcx
        simp at hcx
        have hs1 := hs.1
        have hs2 := hs.2
        obtain ⟨xf, ex⟩ := fin5 (n := x) (by omega) (by omega)
        obtain ⟨yf, ey⟩ := fin5 (n := y) (by omega) (by omega)
        have e0 : p 0 = (a.val : Int) + 1 := by omega
        have e1 : p 1 = (b.val : Int) + 1 := by omega
        have hyy : (yy : Int) = y := by omega
        have hb := sM_bit a b yf xf (by rw [← e0, ← e1, ← ex, ← ey]; exact hc.1) (by
          have := hc.2
          simp [sdOf, nextX, nextY] at this
          rw [← e0, ← e1, ← ex, ← ey]; exact this)
        rw [← e0, ← e1, ← ex, ← ey] at hb
        apply decide_eq_true
        have he2 := of_decide_eq_true hso
        rw [e] at he2
        unfold rowV
        rw [if_pos rfl]
        rw [hyy] at he2 ⊢
        exact put_sub he2 hb
      · rw [upd_ne _ _ e]; exact hso
theorem valid_grass {p : Nat → Int} (hv : validP p = true) {x y : Nat} (hx : x < 10) (hy : y < 10) (hc : isC (p 0) (p 1) (x : Int) (y : Int) = true) {v : Int} (h0 : 0 ≤ v) (h1 : v ≤ 1000) : validP (upd p (2 + y * 10 + x) v) = true := by
  rw [valid_parts] at hv ⊢
  rw [upd_ne _ _ (by omega : 0 ≠ 2 + y * 10 + x), upd_ne _ _ (by omega : 1 ≠ 2 + y * 10 + x)]
  obtain ⟨hW, hH, hrow⟩ := hv
  refine ⟨hW, hH, fun yy hyy => ?_⟩
  obtain ⟨hg, he, hso⟩ := hrow yy hyy
  refine ⟨fun xx hxx => ?_, ?_, ?_⟩
  · have := hg xx hxx
    unfold gOk at this ⊢
    rw [upd_ne _ _ (by omega : 0 ≠ 2 + y * 10 + x), upd_ne _ _ (by omega : 1 ≠ 2 + y * 10 + x)]
    by_cases e : 2 + yy * 10 + xx = 2 + y * 10 + x
    · have e1 : yy = y := by omega
      have e2 : xx = x := by omega
      subst e1; subst e2
      rw [upd_at, hc]
      unfold inB; simp; omega
    · rw [upd_ne _ _ e]; exact this
  · unfold eOk at he ⊢
    rw [upd_ne _ _ (by omega : 0 ≠ 2 + y * 10 + x), upd_ne _ _ (by omega : 1 ≠ 2 + y * 10 + x), upd_ne _ _ (by omega : 102 + yy ≠ 2 + y * 10 + x)]
    exact he
  · unfold sOk at hso ⊢
    rw [upd_ne _ _ (by omega : 0 ≠ 2 + y * 10 + x), upd_ne _ _ (by omega : 1 ≠ 2 + y * 10 + x), upd_ne _ _ (by omega : 112 + yy ≠ 2 + y * 10 + x)]
    exact hso
theorem valid_0 {p : Nat → Int} (hs : small p) (h : ∀ i, 2 ≤ i → p i = 0) : validP p = true := by
  rw [valid_parts]
  obtain ⟨h1, h2⟩ := hs
  refine ⟨by unfold inB; simp; omega, by unfold inB; simp; omega, fun yy hyy => ⟨fun xx hxx => ?_, ?_, ?_⟩⟩
  · unfold gOk
    rw [h _ (by omega)]
    unfold inB
    split <;> simp
  · unfold eOk
    rw [h _ (by omega)]
    exact decide_eq_true (and_0 _)
  · unfold sOk
    rw [h _ (by omega)]
    exact decide_eq_true (and_0 _)
end Go.Proofs.Ytnfdefeafhepkaa
