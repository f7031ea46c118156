import Derived.Test.YtnafnhpajkhgkaaQY10
import Derived.Test.YtnafnhpajkhgkaaQY24
import Derived.Test.YtnafnhpajkhgkaaQY25
import Derived.Test.YtnafnhpajkhgkaaQY27
import Derived.Test.YtnafnhpajkhgkaaQY28
/- The reference's search for cells: one call, when the cells are complete. A valid pasture, cells of it. -/
namespace Go.Proofs.Ytnafnhpajkhgkaa
set_option linter.unusedVariables false
set_option linter.unusedSimpArgs false
open Go Go.RowKit Mem Wk
/-- the search's block -/
def srC (gp k : Nat) (v : Value) (m : Int) : Array Value := #[.pointer (some ⟨gp, 0, none⟩), .int .i64 (k : Int), v, .int .i64 m]
/-- the best cells, as they stand -/
def BestB (w : World) (gw : Nat) (v : Value) (b : List Sp) : Prop := (b = [] ∧ v = .slice none 0 0) ∨ ∃ g cap cur, v = .slice (some ⟨g, 0, none⟩) b.length cap ∧ Ap 2 b.length cap cur (flS b) ∧ w.heap[g]? = some (.cells cur 52 (0, 0)) ∧ g ≠ gw
theorem BestB.sla {w : World} {gw : Nat} {v : Value} {b : List Sp} (h : BestB w gw v b) : ∃ A cap, v = .slice A b.length cap ∧ SlA [] w 2 A (b.map Sp.cells) ∧ SlA [gw] w 2 A (b.map Sp.cells) := by
  rcases h with ⟨rfl, rfl⟩ | ⟨g, cap, cur, rfl, hA, hg, hne⟩
  · exact ⟨none, 0, rfl, fun i c hc => by simp at hc, fun i c hc => by simp at hc⟩
  · have h1 := hA.slA (lenSp b) hg
    refine ⟨_, cap, rfl, h1, fun i c hc => ?_⟩
    obtain ⟨q1, b', o', q2, q3, q4⟩ := h1 i c hc
    injection q2 with q2; injection q2 with e1 e2
    subst e1; subst e2
    exact ⟨q1, _, _, rfl, by simpa using hne, q4⟩
/-- what a call of the search leaves -/
def GrowR (gw gp k : Nat) (v : Value) (q q' : List Sp × Int) (w : World) (e : Ending) (w' : World) : Prop := e = .returned (.tuple #[]) ∧ ∃ v', Upd w w' gw 88 (srC gp k v' q'.2) ∧ ((v' = v ∧ q'.1 = q.1) ∨ ∃ g cap cur, w.heap.size ≤ g ∧ v' = .slice (some ⟨g, 0, none⟩) q'.1.length cap ∧ Ap 2 q'.1.length cap cur (flS q'.1) ∧ w'.heap[g]? = some (.cells cur 52 (0, 0)))
theorem Wk.SlA.wide {O : List Nat} {w : World} {sz : Nat} {A : Option Addr} {xs : List (List Value)} (h : SlA O w sz A xs) : SlA [] w sz A xs := fun i c hc => by
  obtain ⟨q1, b', o', q2, q3, q4⟩ := h i c hc
  exact ⟨q1, b', o', q2, by simp, q4⟩
theorem Wk.Kn.fresh1 {w0 w : World} {gw : Nat} {x : Nat × TypeId × Array Value} {T : TypeId} {c : Array Value} {L : List (Nat × TypeId × Array Value)} (h : Kn [gw] w0 w (x :: L)) (hm : (gw, T, c) ∈ L) : w0.heap.size ≤ x.1 := by
  rcases h.low x List.mem_cons_self with h1 | h1
  · exact h1
  · have e : x.1 = gw := by simpa using h1
    have hn := h.nodup
    rw [List.map_cons, List.nodup_cons] at hn
    exact absurd (List.mem_map.2 ⟨_, hm, e.symm⟩) hn.1
def opnF (p : Nat → Int) (X : List Sp) : Int := ((opnL p X).length : Int)
theorem opnL_congr {p : Nat → Int} {X Y : List Sp} (h : ∀ c, c ∈ X ↔ c ∈ Y) : opnL p X = opnL p Y := by
  have e : inL X = inL Y := by funext c; unfold inL; rw [decide_eq_decide]; exact h c
  unfold opnL; rw [e]
theorem bstG_cases (f : List Sp → Int) (b : List Sp) (m : Int) (X : List Sp) : (bstG f (b, m) X = (X, f X) ∧ (b = [] ∨ f X < m ∨ (f X = m ∧ ahB X b = true))) ∨ (bstG f (b, m) X = (b, m) ∧ b ≠ [] ∧ ¬ f X < m ∧ ¬ (f X = m ∧ ahB X b = true)) := by
  unfold bstG
  by_cases h : b = [] ∨ f X < m ∨ (f X = m ∧ ahB X b = true)
  · rw [if_pos h]; exact .inl ⟨rfl, h⟩
  · rw [if_neg h]; exact .inr ⟨rfl, fun q => h (.inl q), fun q => h (.inr (.inl q)), fun q => h (.inr (.inr q))⟩
attribute [local irreducible] Calls Wk.S Wk.C Wk.E Wk.X Wk.T Wk.Y Wk.andV Wk.shrV Calm.wpLex CalmB.wpLex bfsN bfs stepsP
set_option maxRecDepth 100000 in
set_option maxHeartbeats 3200000 in
theorem grow_leaf (p : Nat → Int) (cs : Array Value) (Tp : TypeId) (gp gw k : Nat) (l nx : List Sp) (gl capl gn capn : Nat) (curl curn : Array Value) (cm : Array Value) (met : Nat → Bool) (v : Value) (b : List Sp) (m : Int) (w : World) (hp : Pv p cs) (hv : validP p = true) (hg : w.heap[gp]? = some (.cells cs Tp (0, 0))) (hpw : gp ≠ gw) (hgw : w.heap[gw]? = some (.cells (srC gp k v m) 88 (0, 0)))
    (hAl : Ap 2 l.length capl curl (flS l)) (hgl : w.heap[gl]? = some (.cells curl 52 (0, 0))) (hlw : gl ≠ gw) (hm : GB met cm) (hB : BestB w gw v b) (hbl : b = [] ∨ b.length = k) (hk : l.length = k) (h0 : l ≠ []) (hnd : l.Nodup) (hcl : ∀ c ∈ l, cel p c) (hk6 : k ≤ 6) (Vn : Value) :
    Calls Try.prog 48 #[.pointer (some ⟨gw, 0, none⟩), .slice (some ⟨gl, 0, none⟩) l.length capl, Vn, .agg cm] w (GrowR gw gp k v (b, m) (bstG (opnF p) (b, m) (ordL l)) w) := by
  have hlR : ∀ c ∈ l, inR c := celR hcl
  have hmk := fun w hgl => l01Mask_any l 52 gl capl curl w hAl hgl hlR
  have hopn := fun T' gm w hg hm => l03Open_any p cs (mskF l) Tp T' gp gm w hp hg hm hv
  rw [opF_list hlR] at hopn
  have hsrt := fun w hS => l03Sorted_any l gl 0 capl w hS (by omega) hlR hnd h0
  have hfe : opnF p (ordL l) = ((opnL p l).length : Int) := by unfold opnF; rw [opnL_congr fun c => ordL_mem hlR c]
  have hol := ordL_size hlR hnd
  have holp : 0 < (ordL l).length := by have := List.length_pos_iff.2 h0; omega
  have hon : (opnL p l).length ≤ 200 := Nat.le_trans (List.length_filter_le _ _) (allSd_len hv)
  have hcase := bstG_cases (opnF p) b m (ordL l)
  rw [hfe] at hcase
  obtain ⟨Ab, capb, rfl, hSb, hSbw⟩ := hB.sla
  have hsz := hm.size
  have hah := fun A capa w hSa hSb' hl => l03Ahead_any (ordL l) b A Ab capa capb w hSa hSb' hl (by omega)
  have hSl := hAl.slA (lenSp l) hgl
  have hgm := gbA_ok (mskF l)
  generalize bstG (opnF p) (b, m) (ordL l) = q' at *
  generalize hOL : ordL l = X at *
  generalize hHS : opnL p l = HS at *
  have hgs := hgm.size
  have hSlw : SlA [gw] w 2 (some ⟨gl, 0, none⟩) (l.map Sp.cells) := fun i c hc => by
    obtain ⟨q1, b', o', q2, q3, q4⟩ := hSl i c hc
    injection q2 with q2; injection q2 with e1 e2
    subst e1; subst e2
    exact ⟨q1, _, _, rfl, by simpa using hlw, q4⟩
  unfold srC at hgw
  unfold GrowR srC
  rcases hcase with ⟨hq, hc⟩ | ⟨hq, hb0, hfm, hfe2⟩
  · rw [hq]
    simp only
    by_cases hb0 : b = []
    · subst hb0
      refine enter4 Try.func48 rfl rfl rfl (Own.startAt w hgw) ?_
      repeat' (first
        | (refine s_g ?_; first
      | (refine s_gd rfl ?_; first | refine s_gd1 rfl rfl zTr ?_ | refine s_gd0 rfl rfl rfl zTr ?_ | refine s_gd00 rfl rfl zTr ?_ | refine s_gdu rfl rfl rfl ?_ | refine s_gp1 rfl rfl rfl (fun hc => ?_) (fun hc => ?_) | refine s_gp0 rfl rfl rfl (fun hc => ?_) (fun hc => ?_) | refine s_gnp1 rfl rfl rfl (fun hc => ?_) (fun hc => ?_) | refine s_gnp0 rfl rfl rfl (fun hc => ?_) (fun hc => ?_) | refine s_gb1 rfl rfl rfl (fun hc => ?_) (fun hc => ?_) | refine s_gb0 rfl rfl rfl (fun hc => ?_) (fun hc => ?_) | refine s_gnb1 rfl rfl rfl (fun hc => ?_) (fun hc => ?_) | refine s_gnb0 rfl rfl rfl (fun hc => ?_) (fun hc => ?_))
      | (refine s_k 0 rfl ?_; refine s_val rfl rfl rfl (r_move rfl rfl) ?_)
      | (refine s_k 23 rfl ?_; first | refine s_val rfl rfl rfl (r_field tb rfl rfl rfl) ?_ | refine s_val rfl rfl rfl (r_fieldS tb rfl rfl rfl) ?_)
      | (refine s_k 8 rfl ?_; first | (refine' s_val rfl rfl rfl (r_ldv rfl rfl ?qm ?qv) ?_; (case qm => (exact zMm)); (case qv => (exact zLe))) | (refine' s_val rfl rfl rfl (r_ldo rfl rfl ?qw (by simp) ?qv) ?_; (case qw => assumption); (case qv => (exact zLe))))
      | (refine s_k 1 rfl ?_; refine s_val rfl rfl rfl (r_assign rfl rfl) ?_)
      | (refine s_k 13 rfl ?_; first | refine s_val rfl rfl rfl (r_lss rfl rfl rfl) ?_ | refine s_val rfl rfl rfl (r_eql rfl rfl rfl) ?_ | refine s_val rfl rfl rfl (r_add rfl rfl rfl (wrap_in (by simp only [lo, hi]; omega))) ?_)
      | (refine s_k 35 rfl ?_; first | (refine s_call Try.func56 (by kernel_rfl) rfl rfl rfl rfl rfl rfl (fun w hL => hmk w (Kn.old hL hgl (by simpa using hlw))) ?_) | (refine s_call Try.func73 (by kernel_rfl) rfl rfl rfl rfl rfl rfl (fun w hL => hah _ _ w (hAs.slA (lenSp X) (hL.at_ m0)) (hSbw.at_ hL).wide rfl) ?_) | (refine s_callN Try.func57 (by kernel_rfl) rfl rfl rfl rfl rfl rfl (fun w hL => hopn _ _ w (Kn.old hL hg (by simpa using hpw)) (hL.at_ m0)) fun gh kh caph curh hAh => ?_; obtain rfl : kh = HS.length := by simpa using hAh.count (lenHd HS) (by omega)) | (refine s_callN Try.func90 (by kernel_rfl) rfl rfl rfl rfl rfl rfl (fun w hL => hsrt w (hSlw.at_ hL).wide) fun gs ks caps curs hAs => ?_; obtain rfl : ks = X.length := hAs.cnt))
      | (refine s_k 14 rfl ?_; refine s_val rfl rfl rfl (r_not rfl rfl) ?_)
      | (refine s_k 2 rfl ?_; first | refine s_val rfl rfl rfl (r_pick1 rfl rfl zTr rfl) ?_ | refine s_val rfl rfl rfl (r_pick0 rfl rfl zTr rfl) ?_)
      | (refine s_k 25 rfl ?_; first | refine s_val rfl rfl rfl (r_ixN tb rfl rfl rfl rfl (by omega)) ?_ | refine s_val rfl rfl rfl (r_ixA tb rfl rfl rfl rfl (by omega) (by omega)) ?_ | refine s_val rfl rfl rfl (r_ixO tb rfl rfl rfl rfl (by omega)) ?_)
      | (refine s_k 4 rfl ?_; first | refine s_boxA rfl rfl rfl rfl rfl fun blk => ?_ | refine s_box1 rfl rfl rfl rfl rfl rfl fun blk => ?_)
      | (refine s_k 9 rfl ?_; (first | refine s_st1 tb rfl rfl rfl rfl rfl rfl rfl rfl ?_ | refine s_stA tb rfl rfl rfl rfl (by first | rfl | assumption | (apply Pv.size; assumption)) rfl rfl ?_); (first | refine' st0 ?qs ?_ | refine' st1 ?qs ?_ | refine' st2 ?qs ?_ | refine' st3 ?qs ?_ | refine' st4 ?qs ?_ | refine' st5 ?qs ?_ | refine' st6 ?qs ?_ | refine' st7 ?qs ?_ | refine' st8 ?qs ?_ | refine' st9 ?qs ?_ | refine' st10 ?qs ?_ | refine' st11 ?qs ?_); (case qs => (first | exact setB hgm zFl_ok.size | exact set_one (by simp) rfl | exact zSet)))
      | (refine s_k 3 rfl ?_; refine s_allocA (t := 90) rfl zF1010 rfl rfl rfl fun blk => ?_)
      | (refine s_k 36 rfl ?_; refine s_val rfl rfl rfl (r_len tb rfl rfl rfl) ?_)
      | (refine s_k 12 rfl ?_; refine s_val rfl rfl rfl (r_nil rfl rfl) ?_)
      | refine s_nil ?_)
        | (refine c_g ?_; first | refine c_seq ?_ | refine c_region ?_ | (refine c_gc ?_; first | refine c_cond1 rfl zTr ?_ | refine c_cond0 rfl zTr ?_ | refine z_condd1 rfl ?_ | refine z_condd0 rfl ?_ | refine z_conddn1 rfl ?_ | refine z_conddn0 rfl ?_ | refine c_condd rfl (fun hc => ?_) (fun hc => ?_) | refine c_conddn rfl (fun hc => ?_) (fun hc => ?_) | refine c_condn rfl (fun hc => ?_) (fun hc => ?_) | refine c_cond rfl (fun hc => ?_) (fun hc => ?_)) | refine c_block ?_ | refine c_skip ?_ | refine c_exit ?_ | refine c_ret ?_)
        | (refine e_g ?_; first | refine e_then ?_ | refine e_blkn ?_ | refine e_thenx ?_ | refine e_thenr ?_ | refine e_blkr ?_ | refine e_blkx ?_ | refine e_blky rfl ?_)
        | (refine e_ret0 (by simp) rfl (fun w hL => ⟨rfl, _, Upd.of hL m4, .inr ⟨gs, caps, curs, hL.fresh1 m3, rfl, hAs, hL.at_ m0⟩⟩)))
    · have hbk : b.length = k := hbl.resolve_left hb0
      have hbp : 0 < b.length := List.length_pos_iff.2 hb0
      have hxb : X.length = b.length := by omega
      have hah' := fun A capa w hSa hSb' => hah A capa w hSa hSb' hxb
      rcases hc with hc | hc | ⟨hc1, hc2⟩
      · exact absurd hc hb0
      · refine enter4 Try.func48 rfl rfl rfl (Own.startAt w hgw) ?_
        repeat' (first
          | (refine s_g ?_; first
      | (refine s_gd rfl ?_; first | refine s_gd1 rfl rfl zTr ?_ | refine s_gd0 rfl rfl rfl zTr ?_ | refine s_gd00 rfl rfl zTr ?_ | refine s_gdu rfl rfl rfl ?_ | refine s_gp1 rfl rfl rfl (fun hc => ?_) (fun hc => ?_) | refine s_gp0 rfl rfl rfl (fun hc => ?_) (fun hc => ?_) | refine s_gnp1 rfl rfl rfl (fun hc => ?_) (fun hc => ?_) | refine s_gnp0 rfl rfl rfl (fun hc => ?_) (fun hc => ?_) | refine s_gb1 rfl rfl rfl (fun hc => ?_) (fun hc => ?_) | refine s_gb0 rfl rfl rfl (fun hc => ?_) (fun hc => ?_) | refine s_gnb1 rfl rfl rfl (fun hc => ?_) (fun hc => ?_) | refine s_gnb0 rfl rfl rfl (fun hc => ?_) (fun hc => ?_))
      | (refine s_k 0 rfl ?_; refine s_val rfl rfl rfl (r_move rfl rfl) ?_)
      | (refine s_k 23 rfl ?_; first | refine s_val rfl rfl rfl (r_field tb rfl rfl rfl) ?_ | refine s_val rfl rfl rfl (r_fieldS tb rfl rfl rfl) ?_)
      | (refine s_k 8 rfl ?_; first | (refine' s_val rfl rfl rfl (r_ldv rfl rfl ?qm ?qv) ?_; (case qm => (exact zMm)); (case qv => (exact zLe))) | (refine' s_val rfl rfl rfl (r_ldo rfl rfl ?qw (by simp) ?qv) ?_; (case qw => assumption); (case qv => (exact zLe))))
      | (refine s_k 1 rfl ?_; refine s_val rfl rfl rfl (r_assign rfl rfl) ?_)
      | (refine s_k 13 rfl ?_; first | refine s_val rfl rfl rfl (r_lss rfl rfl rfl) ?_ | refine s_val rfl rfl rfl (r_eql rfl rfl rfl) ?_ | refine s_val rfl rfl rfl (r_add rfl rfl rfl (wrap_in (by simp only [lo, hi]; omega))) ?_)
      | (refine s_k 35 rfl ?_; first | (refine s_call Try.func56 (by kernel_rfl) rfl rfl rfl rfl rfl rfl (fun w hL => hmk w (Kn.old hL hgl (by simpa using hlw))) ?_) | (refine s_call Try.func73 (by kernel_rfl) rfl rfl rfl rfl rfl rfl (fun w hL => hah' _ _ w (hAs.slA (lenSp X) (hL.at_ m0)) (hSbw.at_ hL).wide) ?_) | (refine s_callN Try.func57 (by kernel_rfl) rfl rfl rfl rfl rfl rfl (fun w hL => hopn _ _ w (Kn.old hL hg (by simpa using hpw)) (hL.at_ m0)) fun gh kh caph curh hAh => ?_; obtain rfl : kh = HS.length := by simpa using hAh.count (lenHd HS) (by omega)) | (refine s_callN Try.func90 (by kernel_rfl) rfl rfl rfl rfl rfl rfl (fun w hL => hsrt w (hSlw.at_ hL).wide) fun gs ks caps curs hAs => ?_; obtain rfl : ks = X.length := hAs.cnt))
      | (refine s_k 14 rfl ?_; refine s_val rfl rfl rfl (r_not rfl rfl) ?_)
      | (refine s_k 2 rfl ?_; first | refine s_val rfl rfl rfl (r_pick1 rfl rfl zTr rfl) ?_ | refine s_val rfl rfl rfl (r_pick0 rfl rfl zTr rfl) ?_)
      | (refine s_k 25 rfl ?_; first | refine s_val rfl rfl rfl (r_ixN tb rfl rfl rfl rfl (by omega)) ?_ | refine s_val rfl rfl rfl (r_ixA tb rfl rfl rfl rfl (by omega) (by omega)) ?_ | refine s_val rfl rfl rfl (r_ixO tb rfl rfl rfl rfl (by omega)) ?_)
      | (refine s_k 4 rfl ?_; first | refine s_boxA rfl rfl rfl rfl rfl fun blk => ?_ | refine s_box1 rfl rfl rfl rfl rfl rfl fun blk => ?_)
      | (refine s_k 9 rfl ?_; (first | refine s_st1 tb rfl rfl rfl rfl rfl rfl rfl rfl ?_ | refine s_stA tb rfl rfl rfl rfl (by first | rfl | assumption | (apply Pv.size; assumption)) rfl rfl ?_); (first | refine' st0 ?qs ?_ | refine' st1 ?qs ?_ | refine' st2 ?qs ?_ | refine' st3 ?qs ?_ | refine' st4 ?qs ?_ | refine' st5 ?qs ?_ | refine' st6 ?qs ?_ | refine' st7 ?qs ?_ | refine' st8 ?qs ?_ | refine' st9 ?qs ?_ | refine' st10 ?qs ?_ | refine' st11 ?qs ?_); (case qs => (first | exact setB hgm zFl_ok.size | exact set_one (by simp) rfl | exact zSet)))
      | (refine s_k 3 rfl ?_; refine s_allocA (t := 90) rfl zF1010 rfl rfl rfl fun blk => ?_)
      | (refine s_k 36 rfl ?_; refine s_val rfl rfl rfl (r_len tb rfl rfl rfl) ?_)
      | (refine s_k 12 rfl ?_; refine s_val rfl rfl rfl (r_nil rfl rfl) ?_)
      | refine s_nil ?_)
          | (refine c_g ?_; first | refine c_seq ?_ | refine c_region ?_ | (refine c_gc ?_; first | refine c_cond1 rfl zTr ?_ | refine c_cond0 rfl zTr ?_ | refine z_condd1 rfl ?_ | refine z_condd0 rfl ?_ | refine z_conddn1 rfl ?_ | refine z_conddn0 rfl ?_ | refine c_condd rfl (fun hc => ?_) (fun hc => ?_) | refine c_conddn rfl (fun hc => ?_) (fun hc => ?_) | refine c_condn rfl (fun hc => ?_) (fun hc => ?_) | refine c_cond rfl (fun hc => ?_) (fun hc => ?_)) | refine c_block ?_ | refine c_skip ?_ | refine c_exit ?_ | refine c_ret ?_)
          | (refine e_g ?_; first | refine e_then ?_ | refine e_blkn ?_ | refine e_thenx ?_ | refine e_thenr ?_ | refine e_blkr ?_ | refine e_blkx ?_ | refine e_blky rfl ?_)
          | (refine e_ret0 (by simp) rfl (fun w hL => ⟨rfl, _, Upd.of hL m4, .inr ⟨gs, caps, curs, hL.fresh1 m3, rfl, hAs, hL.at_ m0⟩⟩)))
      · rw [hc2] at hah'
        refine enter4 Try.func48 rfl rfl rfl (Own.startAt w hgw) ?_
        repeat' (first
          | (refine s_g ?_; first
      | (refine s_gd rfl ?_; first | refine s_gd1 rfl rfl zTr ?_ | refine s_gd0 rfl rfl rfl zTr ?_ | refine s_gd00 rfl rfl zTr ?_ | refine s_gdu rfl rfl rfl ?_ | refine s_gp1 rfl rfl rfl (fun hc => ?_) (fun hc => ?_) | refine s_gp0 rfl rfl rfl (fun hc => ?_) (fun hc => ?_) | refine s_gnp1 rfl rfl rfl (fun hc => ?_) (fun hc => ?_) | refine s_gnp0 rfl rfl rfl (fun hc => ?_) (fun hc => ?_) | refine s_gb1 rfl rfl rfl (fun hc => ?_) (fun hc => ?_) | refine s_gb0 rfl rfl rfl (fun hc => ?_) (fun hc => ?_) | refine s_gnb1 rfl rfl rfl (fun hc => ?_) (fun hc => ?_) | refine s_gnb0 rfl rfl rfl (fun hc => ?_) (fun hc => ?_))
      | (refine s_k 0 rfl ?_; refine s_val rfl rfl rfl (r_move rfl rfl) ?_)
      | (refine s_k 23 rfl ?_; first | refine s_val rfl rfl rfl (r_field tb rfl rfl rfl) ?_ | refine s_val rfl rfl rfl (r_fieldS tb rfl rfl rfl) ?_)
      | (refine s_k 8 rfl ?_; first | (refine' s_val rfl rfl rfl (r_ldv rfl rfl ?qm ?qv) ?_; (case qm => (exact zMm)); (case qv => (exact zLe))) | (refine' s_val rfl rfl rfl (r_ldo rfl rfl ?qw (by simp) ?qv) ?_; (case qw => assumption); (case qv => (exact zLe))))
      | (refine s_k 1 rfl ?_; refine s_val rfl rfl rfl (r_assign rfl rfl) ?_)
      | (refine s_k 13 rfl ?_; first | refine s_val rfl rfl rfl (r_lss rfl rfl rfl) ?_ | refine s_val rfl rfl rfl (r_eql rfl rfl rfl) ?_ | refine s_val rfl rfl rfl (r_add rfl rfl rfl (wrap_in (by simp only [lo, hi]; omega))) ?_)
      | (refine s_k 35 rfl ?_; first | (refine s_call Try.func56 (by kernel_rfl) rfl rfl rfl rfl rfl rfl (fun w hL => hmk w (Kn.old hL hgl (by simpa using hlw))) ?_) | (refine s_call Try.func73 (by kernel_rfl) rfl rfl rfl rfl rfl rfl (fun w hL => hah' _ _ w (hAs.slA (lenSp X) (hL.at_ m0)) (hSbw.at_ hL).wide) ?_) | (refine s_callN Try.func57 (by kernel_rfl) rfl rfl rfl rfl rfl rfl (fun w hL => hopn _ _ w (Kn.old hL hg (by simpa using hpw)) (hL.at_ m0)) fun gh kh caph curh hAh => ?_; obtain rfl : kh = HS.length := by simpa using hAh.count (lenHd HS) (by omega)) | (refine s_callN Try.func90 (by kernel_rfl) rfl rfl rfl rfl rfl rfl (fun w hL => hsrt w (hSlw.at_ hL).wide) fun gs ks caps curs hAs => ?_; obtain rfl : ks = X.length := hAs.cnt))
      | (refine s_k 14 rfl ?_; refine s_val rfl rfl rfl (r_not rfl rfl) ?_)
      | (refine s_k 2 rfl ?_; first | refine s_val rfl rfl rfl (r_pick1 rfl rfl zTr rfl) ?_ | refine s_val rfl rfl rfl (r_pick0 rfl rfl zTr rfl) ?_)
      | (refine s_k 25 rfl ?_; first | refine s_val rfl rfl rfl (r_ixN tb rfl rfl rfl rfl (by omega)) ?_ | refine s_val rfl rfl rfl (r_ixA tb rfl rfl rfl rfl (by omega) (by omega)) ?_ | refine s_val rfl rfl rfl (r_ixO tb rfl rfl rfl rfl (by omega)) ?_)
      | (refine s_k 4 rfl ?_; first | refine s_boxA rfl rfl rfl rfl rfl fun blk => ?_ | refine s_box1 rfl rfl rfl rfl rfl rfl fun blk => ?_)
      | (refine s_k 9 rfl ?_; (first | refine s_st1 tb rfl rfl rfl rfl rfl rfl rfl rfl ?_ | refine s_stA tb rfl rfl rfl rfl (by first | rfl | assumption | (apply Pv.size; assumption)) rfl rfl ?_); (first | refine' st0 ?qs ?_ | refine' st1 ?qs ?_ | refine' st2 ?qs ?_ | refine' st3 ?qs ?_ | refine' st4 ?qs ?_ | refine' st5 ?qs ?_ | refine' st6 ?qs ?_ | refine' st7 ?qs ?_ | refine' st8 ?qs ?_ | refine' st9 ?qs ?_ | refine' st10 ?qs ?_ | refine' st11 ?qs ?_); (case qs => (first | exact setB hgm zFl_ok.size | exact set_one (by simp) rfl | exact zSet)))
      | (refine s_k 3 rfl ?_; refine s_allocA (t := 90) rfl zF1010 rfl rfl rfl fun blk => ?_)
      | (refine s_k 36 rfl ?_; refine s_val rfl rfl rfl (r_len tb rfl rfl rfl) ?_)
      | (refine s_k 12 rfl ?_; refine s_val rfl rfl rfl (r_nil rfl rfl) ?_)
      | refine s_nil ?_)
          | (refine c_g ?_; first | refine c_seq ?_ | refine c_region ?_ | (refine c_gc ?_; first | refine c_cond1 rfl zTr ?_ | refine c_cond0 rfl zTr ?_ | refine z_condd1 rfl ?_ | refine z_condd0 rfl ?_ | refine z_conddn1 rfl ?_ | refine z_conddn0 rfl ?_ | refine c_condd rfl (fun hc => ?_) (fun hc => ?_) | refine c_conddn rfl (fun hc => ?_) (fun hc => ?_) | refine c_condn rfl (fun hc => ?_) (fun hc => ?_) | refine c_cond rfl (fun hc => ?_) (fun hc => ?_)) | refine c_block ?_ | refine c_skip ?_ | refine c_exit ?_ | refine c_ret ?_)
          | (refine e_g ?_; first | refine e_then ?_ | refine e_blkn ?_ | refine e_thenx ?_ | refine e_thenr ?_ | refine e_blkr ?_ | refine e_blkx ?_ | refine e_blky rfl ?_)
          | (refine e_ret0 (by simp) rfl (fun w hL => ⟨rfl, _, Upd.of hL m4, .inr ⟨gs, caps, curs, hL.fresh1 m3, rfl, hAs, hL.at_ m0⟩⟩)))
  · rw [hq]
    simp only
    have hbk : b.length = k := hbl.resolve_left hb0
    have hbp : 0 < b.length := List.length_pos_iff.2 hb0
    have hxb : X.length = b.length := by omega
    have hah' := fun A capa w hSa hSb' => hah A capa w hSa hSb' hxb
    by_cases he : (HS.length : Int) = m
    · have hno : ahB X b = false := by
        cases h : ahB X b
        · rfl
        · exact absurd ⟨he, h⟩ hfe2
      rw [hno] at hah'
      refine enter4 Try.func48 rfl rfl rfl (Own.startAt w hgw) ?_
      repeat' (first
        | (refine s_g ?_; first
      | (refine s_gd rfl ?_; first | refine s_gd1 rfl rfl zTr ?_ | refine s_gd0 rfl rfl rfl zTr ?_ | refine s_gd00 rfl rfl zTr ?_ | refine s_gdu rfl rfl rfl ?_ | refine s_gp1 rfl rfl rfl (fun hc => ?_) (fun hc => ?_) | refine s_gp0 rfl rfl rfl (fun hc => ?_) (fun hc => ?_) | refine s_gnp1 rfl rfl rfl (fun hc => ?_) (fun hc => ?_) | refine s_gnp0 rfl rfl rfl (fun hc => ?_) (fun hc => ?_) | refine s_gb1 rfl rfl rfl (fun hc => ?_) (fun hc => ?_) | refine s_gb0 rfl rfl rfl (fun hc => ?_) (fun hc => ?_) | refine s_gnb1 rfl rfl rfl (fun hc => ?_) (fun hc => ?_) | refine s_gnb0 rfl rfl rfl (fun hc => ?_) (fun hc => ?_))
      | (refine s_k 0 rfl ?_; refine s_val rfl rfl rfl (r_move rfl rfl) ?_)
      | (refine s_k 23 rfl ?_; first | refine s_val rfl rfl rfl (r_field tb rfl rfl rfl) ?_ | refine s_val rfl rfl rfl (r_fieldS tb rfl rfl rfl) ?_)
      | (refine s_k 8 rfl ?_; first | (refine' s_val rfl rfl rfl (r_ldv rfl rfl ?qm ?qv) ?_; (case qm => (exact zMm)); (case qv => (exact zLe))) | (refine' s_val rfl rfl rfl (r_ldo rfl rfl ?qw (by simp) ?qv) ?_; (case qw => assumption); (case qv => (exact zLe))))
      | (refine s_k 1 rfl ?_; refine s_val rfl rfl rfl (r_assign rfl rfl) ?_)
      | (refine s_k 13 rfl ?_; first | refine s_val rfl rfl rfl (r_lss rfl rfl rfl) ?_ | refine s_val rfl rfl rfl (r_eql rfl rfl rfl) ?_ | refine s_val rfl rfl rfl (r_add rfl rfl rfl (wrap_in (by simp only [lo, hi]; omega))) ?_)
      | (refine s_k 35 rfl ?_; first | (refine s_call Try.func56 (by kernel_rfl) rfl rfl rfl rfl rfl rfl (fun w hL => hmk w (Kn.old hL hgl (by simpa using hlw))) ?_) | (refine s_call Try.func73 (by kernel_rfl) rfl rfl rfl rfl rfl rfl (fun w hL => hah' _ _ w (hAs.slA (lenSp X) (hL.at_ m0)) (hSbw.at_ hL).wide) ?_) | (refine s_callN Try.func57 (by kernel_rfl) rfl rfl rfl rfl rfl rfl (fun w hL => hopn _ _ w (Kn.old hL hg (by simpa using hpw)) (hL.at_ m0)) fun gh kh caph curh hAh => ?_; obtain rfl : kh = HS.length := by simpa using hAh.count (lenHd HS) (by omega)) | (refine s_callN Try.func90 (by kernel_rfl) rfl rfl rfl rfl rfl rfl (fun w hL => hsrt w (hSlw.at_ hL).wide) fun gs ks caps curs hAs => ?_; obtain rfl : ks = X.length := hAs.cnt))
      | (refine s_k 14 rfl ?_; refine s_val rfl rfl rfl (r_not rfl rfl) ?_)
      | (refine s_k 2 rfl ?_; first | refine s_val rfl rfl rfl (r_pick1 rfl rfl zTr rfl) ?_ | refine s_val rfl rfl rfl (r_pick0 rfl rfl zTr rfl) ?_)
      | (refine s_k 25 rfl ?_; first | refine s_val rfl rfl rfl (r_ixN tb rfl rfl rfl rfl (by omega)) ?_ | refine s_val rfl rfl rfl (r_ixA tb rfl rfl rfl rfl (by omega) (by omega)) ?_ | refine s_val rfl rfl rfl (r_ixO tb rfl rfl rfl rfl (by omega)) ?_)
      | (refine s_k 4 rfl ?_; first | refine s_boxA rfl rfl rfl rfl rfl fun blk => ?_ | refine s_box1 rfl rfl rfl rfl rfl rfl fun blk => ?_)
      | (refine s_k 9 rfl ?_; (first | refine s_st1 tb rfl rfl rfl rfl rfl rfl rfl rfl ?_ | refine s_stA tb rfl rfl rfl rfl (by first | rfl | assumption | (apply Pv.size; assumption)) rfl rfl ?_); (first | refine' st0 ?qs ?_ | refine' st1 ?qs ?_ | refine' st2 ?qs ?_ | refine' st3 ?qs ?_ | refine' st4 ?qs ?_ | refine' st5 ?qs ?_ | refine' st6 ?qs ?_ | refine' st7 ?qs ?_ | refine' st8 ?qs ?_ | refine' st9 ?qs ?_ | refine' st10 ?qs ?_ | refine' st11 ?qs ?_); (case qs => (first | exact setB hgm zFl_ok.size | exact set_one (by simp) rfl | exact zSet)))
      | (refine s_k 3 rfl ?_; refine s_allocA (t := 90) rfl zF1010 rfl rfl rfl fun blk => ?_)
      | (refine s_k 36 rfl ?_; refine s_val rfl rfl rfl (r_len tb rfl rfl rfl) ?_)
      | (refine s_k 12 rfl ?_; refine s_val rfl rfl rfl (r_nil rfl rfl) ?_)
      | refine s_nil ?_)
        | (refine c_g ?_; first | refine c_seq ?_ | refine c_region ?_ | (refine c_gc ?_; first | refine c_cond1 rfl zTr ?_ | refine c_cond0 rfl zTr ?_ | refine z_condd1 rfl ?_ | refine z_condd0 rfl ?_ | refine z_conddn1 rfl ?_ | refine z_conddn0 rfl ?_ | refine c_condd rfl (fun hc => ?_) (fun hc => ?_) | refine c_conddn rfl (fun hc => ?_) (fun hc => ?_) | refine c_condn rfl (fun hc => ?_) (fun hc => ?_) | refine c_cond rfl (fun hc => ?_) (fun hc => ?_)) | refine c_block ?_ | refine c_skip ?_ | refine c_exit ?_ | refine c_ret ?_)
        | (refine e_g ?_; first | refine e_then ?_ | refine e_blkn ?_ | refine e_thenx ?_ | refine e_thenr ?_ | refine e_blkr ?_ | refine e_blkx ?_ | refine e_blky rfl ?_)
        | (refine e_ret0 (by simp) rfl (fun w hL => ⟨rfl, _, Upd.of hL m4, .inl ⟨rfl, trivial⟩⟩)))
    · refine enter4 Try.func48 rfl rfl rfl (Own.startAt w hgw) ?_
      repeat' (first
        | (refine s_g ?_; first
      | (refine s_gd rfl ?_; first | refine s_gd1 rfl rfl zTr ?_ | refine s_gd0 rfl rfl rfl zTr ?_ | refine s_gd00 rfl rfl zTr ?_ | refine s_gdu rfl rfl rfl ?_ | refine s_gp1 rfl rfl rfl (fun hc => ?_) (fun hc => ?_) | refine s_gp0 rfl rfl rfl (fun hc => ?_) (fun hc => ?_) | refine s_gnp1 rfl rfl rfl (fun hc => ?_) (fun hc => ?_) | refine s_gnp0 rfl rfl rfl (fun hc => ?_) (fun hc => ?_) | refine s_gb1 rfl rfl rfl (fun hc => ?_) (fun hc => ?_) | refine s_gb0 rfl rfl rfl (fun hc => ?_) (fun hc => ?_) | refine s_gnb1 rfl rfl rfl (fun hc => ?_) (fun hc => ?_) | refine s_gnb0 rfl rfl rfl (fun hc => ?_) (fun hc => ?_))
      | (refine s_k 0 rfl ?_; refine s_val rfl rfl rfl (r_move rfl rfl) ?_)
      | (refine s_k 23 rfl ?_; first | refine s_val rfl rfl rfl (r_field tb rfl rfl rfl) ?_ | refine s_val rfl rfl rfl (r_fieldS tb rfl rfl rfl) ?_)
      | (refine s_k 8 rfl ?_; first | (refine' s_val rfl rfl rfl (r_ldv rfl rfl ?qm ?qv) ?_; (case qm => (exact zMm)); (case qv => (exact zLe))) | (refine' s_val rfl rfl rfl (r_ldo rfl rfl ?qw (by simp) ?qv) ?_; (case qw => assumption); (case qv => (exact zLe))))
      | (refine s_k 1 rfl ?_; refine s_val rfl rfl rfl (r_assign rfl rfl) ?_)
      | (refine s_k 13 rfl ?_; first | refine s_val rfl rfl rfl (r_lss rfl rfl rfl) ?_ | refine s_val rfl rfl rfl (r_eql rfl rfl rfl) ?_ | refine s_val rfl rfl rfl (r_add rfl rfl rfl (wrap_in (by simp only [lo, hi]; omega))) ?_)
      | (refine s_k 35 rfl ?_; first | (refine s_call Try.func56 (by kernel_rfl) rfl rfl rfl rfl rfl rfl (fun w hL => hmk w (Kn.old hL hgl (by simpa using hlw))) ?_) | (refine s_call Try.func73 (by kernel_rfl) rfl rfl rfl rfl rfl rfl (fun w hL => hah' _ _ w (hAs.slA (lenSp X) (hL.at_ m0)) (hSbw.at_ hL).wide) ?_) | (refine s_callN Try.func57 (by kernel_rfl) rfl rfl rfl rfl rfl rfl (fun w hL => hopn _ _ w (Kn.old hL hg (by simpa using hpw)) (hL.at_ m0)) fun gh kh caph curh hAh => ?_; obtain rfl : kh = HS.length := by simpa using hAh.count (lenHd HS) (by omega)) | (refine s_callN Try.func90 (by kernel_rfl) rfl rfl rfl rfl rfl rfl (fun w hL => hsrt w (hSlw.at_ hL).wide) fun gs ks caps curs hAs => ?_; obtain rfl : ks = X.length := hAs.cnt))
      | (refine s_k 14 rfl ?_; refine s_val rfl rfl rfl (r_not rfl rfl) ?_)
      | (refine s_k 2 rfl ?_; first | refine s_val rfl rfl rfl (r_pick1 rfl rfl zTr rfl) ?_ | refine s_val rfl rfl rfl (r_pick0 rfl rfl zTr rfl) ?_)
      | (refine s_k 25 rfl ?_; first | refine s_val rfl rfl rfl (r_ixN tb rfl rfl rfl rfl (by omega)) ?_ | refine s_val rfl rfl rfl (r_ixA tb rfl rfl rfl rfl (by omega) (by omega)) ?_ | refine s_val rfl rfl rfl (r_ixO tb rfl rfl rfl rfl (by omega)) ?_)
      | (refine s_k 4 rfl ?_; first | refine s_boxA rfl rfl rfl rfl rfl fun blk => ?_ | refine s_box1 rfl rfl rfl rfl rfl rfl fun blk => ?_)
      | (refine s_k 9 rfl ?_; (first | refine s_st1 tb rfl rfl rfl rfl rfl rfl rfl rfl ?_ | refine s_stA tb rfl rfl rfl rfl (by first | rfl | assumption | (apply Pv.size; assumption)) rfl rfl ?_); (first | refine' st0 ?qs ?_ | refine' st1 ?qs ?_ | refine' st2 ?qs ?_ | refine' st3 ?qs ?_ | refine' st4 ?qs ?_ | refine' st5 ?qs ?_ | refine' st6 ?qs ?_ | refine' st7 ?qs ?_ | refine' st8 ?qs ?_ | refine' st9 ?qs ?_ | refine' st10 ?qs ?_ | refine' st11 ?qs ?_); (case qs => (first | exact setB hgm zFl_ok.size | exact set_one (by simp) rfl | exact zSet)))
      | (refine s_k 3 rfl ?_; refine s_allocA (t := 90) rfl zF1010 rfl rfl rfl fun blk => ?_)
      | (refine s_k 36 rfl ?_; refine s_val rfl rfl rfl (r_len tb rfl rfl rfl) ?_)
      | (refine s_k 12 rfl ?_; refine s_val rfl rfl rfl (r_nil rfl rfl) ?_)
      | refine s_nil ?_)
        | (refine c_g ?_; first | refine c_seq ?_ | refine c_region ?_ | (refine c_gc ?_; first | refine c_cond1 rfl zTr ?_ | refine c_cond0 rfl zTr ?_ | refine z_condd1 rfl ?_ | refine z_condd0 rfl ?_ | refine z_conddn1 rfl ?_ | refine z_conddn0 rfl ?_ | refine c_condd rfl (fun hc => ?_) (fun hc => ?_) | refine c_conddn rfl (fun hc => ?_) (fun hc => ?_) | refine c_condn rfl (fun hc => ?_) (fun hc => ?_) | refine c_cond rfl (fun hc => ?_) (fun hc => ?_)) | refine c_block ?_ | refine c_skip ?_ | refine c_exit ?_ | refine c_ret ?_)
        | (refine e_g ?_; first | refine e_then ?_ | refine e_blkn ?_ | refine e_thenx ?_ | refine e_thenr ?_ | refine e_blkr ?_ | refine e_blkx ?_ | refine e_blky rfl ?_)
        | (refine e_ret0 (by simp) rfl (fun w hL => ⟨rfl, _, Upd.of hL m4, .inl ⟨rfl, trivial⟩⟩)))
end Go.Proofs.Ytnafnhpajkhgkaa
