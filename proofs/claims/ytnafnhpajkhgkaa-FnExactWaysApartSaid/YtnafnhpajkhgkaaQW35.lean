import Derived.Test.YtnafnhpajkhgkaaQW13
import Derived.Test.YtnafnhpajkhgkaaQW32
import Derived.Test.YtnafnhpajkhgkaaQW34
/- The reference's first way from a list of cells to another. A valid pasture, cells of it. -/
namespace Go.Proofs.Ytnafnhpajkhgkaa
set_option linter.unusedVariables false
set_option linter.unusedSimpArgs false
open Go.RowKit Mem Wk
attribute [local irreducible] Calls Wk.S Wk.C Wk.E Wk.X Wk.T Wk.Y Wk.anV Wk.orV Wk.andV Wk.shlV Wk.shrV Calm.wpLex CalmB.wpLex bfsN stepsP bfs
theorem Wk.e_rot1 {Q : Exit → Act → World → Prop} {n : Nat} {O : List Nat} {w0 : World} {e : Exit} {l : List (Nat × Value)} {a b : Nat × TypeId × Array Value} {L : List (Nat × TypeId × Array Value)} (h : E Q n O w0 e l (b :: a :: L)) : E Q n O w0 e l (a :: b :: L) := e_permW (List.Perm.swap b a L) h
/-- the best way after the cells l, and k cells of B from a -/
def fsR (p : Nat → Int) (l : List Sp) (a : Sp) (B : List Sp) (k : Nat) : List Sp := (allV p l B ++ (B.take k).map (wayV p a)).foldl betS []
theorem fsR_0 (p : Nat → Int) (l : List Sp) (a : Sp) (B : List Sp) : fsR p l a B 0 = specW p l B := by unfold fsR specW; simp
theorem specW_nil (p : Nat → Int) (B : List Sp) : specW p [] B = [] := rfl
theorem fsR_succ {p : Nat → Int} {l : List Sp} {a : Sp} {B : List Sp} {k : Nat} {b : Sp} (hb : B[k]? = some b) : fsR p l a B (k + 1) = betS (fsR p l a B k) (wayV p a b) := by
  unfold fsR
  rw [List.take_add_one, hb, List.map_append, ← List.append_assoc, List.foldl_append]; rfl
theorem fsR_end {p : Nat → Int} {A : List Sp} {a : Sp} {B : List Sp} {i : Nat} (ha : A[i]? = some a) : fsR p (A.take i) a B B.length = specW p (A.take (i + 1)) B := by
  unfold fsR specW allV
  rw [List.take_length, List.take_add_one, ha, List.flatMap_append]; simp
theorem betS_nil (R : List Sp) : betS R [] = R := by unfold betS; rw [if_pos rfl]
theorem betS_first {V : List Sp} (h : V ≠ []) : betS [] V = V := by unfold betS; rw [if_neg h]; simp
theorem betS_long {R V : List Sp} (hR : R ≠ []) (hV : V ≠ []) (h : R.length < V.length) : betS R V = R := by unfold betS; rw [if_neg hV, if_pos ⟨hR, h⟩]
theorem betS_short {R V : List Sp} (hV : V ≠ []) (h : V.length < R.length) : betS R V = V := by unfold betS; rw [if_neg hV, if_neg (by omega), if_pos (Or.inr (Or.inl h))]
theorem betS_same {R V : List Sp} (hR : R ≠ []) (hV : V ≠ []) (h : V.length = R.length) : betS R V = if ahB V R = true then V else R := by
  unfold betS; rw [if_neg hV, if_neg (by omega)]
  have : (R = [] ∨ V.length < R.length ∨ ahB V R = true) ↔ ahB V R = true := ⟨fun q => by rcases q with q | q | q; exact absurd q hR; omega; exact q, fun q => .inr (.inr q)⟩
  simp only [this]
theorem wayV_len {p : Nat → Int} {a b : Sp} (hb : inR b) : (wayV p a b).length ≤ 101 := by
  unfold wayV
  split
  · simp
  · rw [gw_len]
    have := near_val (p := p) (B := [b]) (fun c hc => by rw [List.mem_singleton] at hc; subst hc; exact hb) a
    omega
theorem wayB_any (p : Nat → Int) (cs : Array Value) (a b : Sp) (w : World) (hp : Pv p cs) (hv : validP p = true) (ha : cel p a) (hb : cel p b) :
    Calls Try.prog 72 #[.agg cs, .agg #[.int .i8 a.x, .int .i8 a.y], .agg #[.int .i8 b.x, .int .i8 b.y]] w (NewS2 52 2 (flS (wayV p a b)) (if wayV p a b = [] then 6 else 0) w) := by
  by_cases h0 : (stepsP p [b]).1 (ci a) = 0
  · have e : wayV p a b = [] := by unfold wayV; rw [if_pos h0]
    rw [e]
    exact wayBetween_no p cs a b w hp hv ha hb h0
  · have hnn := near_val (p := p) (B := [b]) (fun c hc => by rw [List.mem_singleton] at hc; subst hc; exact isC_range hb) a
    obtain ⟨k, hk⟩ : ∃ k : Nat, (stepsP p [b]).1 (ci a) = (k : Int) + 1 := ⟨((stepsP p [b]).1 (ci a) - 1).toNat, by omega⟩
    have e : wayV p a b = gw p (stepsP p [b]).1 k a := by unfold wayV; rw [if_neg h0, hk]; congr 1; omega
    rw [e, if_neg (fun q => by have := gw_len p (stepsP p [b]).1 k a; rw [q] at this; cases this)]
    exact wayBetween_ok p cs a b k w hp hv ha hb hk
attribute [local irreducible] specW fsR wayV
set_option maxRecDepth 100000 in
set_option maxHeartbeats 3200000 in
theorem l03First_any (p : Nat → Int) (cs : Array Value) (T : TypeId) (gp : Nat) (A B : List Sp) (Aa Ab : Option Addr) (capa capb : Nat) (w : World) (hp : Pv p cs) (hv : validP p = true) (hg : w.heap[gp]? = some (.cells cs T (0, 0))) (hSA : SlA [] w 2 Aa (A.map Sp.cells)) (hSB : SlA [] w 2 Ab (B.map Sp.cells)) (hnA : A.length ≤ 1048576) (hnB : B.length ≤ 1048576) (hA : ∀ c ∈ A, cel p c) (hB : ∀ c ∈ B, cel p c) :
    Calls Try.prog 35 #[.pointer (some ⟨gp, 0, none⟩), .slice Aa A.length capa, .slice Ab B.length capb] w (NewS 52 2 (flS (specW p A B)) w) := by
  have hsz := hp.size
  refine enter3 Try.func35 rfl rfl rfl (Own.start w) ?_
  repeat' (first
    | (refine s_g ?_; first
      | (refine s_gd rfl ?_; first | refine s_gd1 rfl rfl zTr ?_ | refine s_gd0 rfl rfl rfl zTr ?_ | refine s_gd00 rfl rfl zTr ?_ | refine s_gp1 rfl rfl rfl (fun hc => ?_) (fun hc => ?_) | refine s_gp0 rfl rfl rfl (fun hc => ?_) (fun hc => ?_) | refine s_gnp1 rfl rfl rfl (fun hc => ?_) (fun hc => ?_) | refine s_gnp0 rfl rfl rfl (fun hc => ?_) (fun hc => ?_) | refine s_gb1 rfl rfl rfl (fun hc => ?_) (fun hc => ?_) | refine s_gb0 rfl rfl rfl (fun hc => ?_) (fun hc => ?_) | refine s_gnb1 rfl rfl rfl (fun hc => ?_) (fun hc => ?_) | refine s_gnb0 rfl rfl rfl (fun hc => ?_) (fun hc => ?_))
      | (refine s_k 0 rfl ?_; refine s_val rfl rfl rfl (r_move rfl rfl) ?_)
      | (refine s_k 8 rfl ?_; first | (refine' s_val rfl rfl rfl (r_ldv rfl rfl ?qm ?qv) ?_; (case qm => (exact zMm)); (case qv => (exact zLe))) | (refine' s_val rfl rfl rfl (r_ldo rfl rfl ?qw (by simp) ?qv) ?_; (case qw => assumption); (case qv => (exact zLe))))
      | (refine s_k 1 rfl ?_; refine s_val rfl rfl rfl (r_assign rfl rfl) ?_)
      | (refine s_k 13 rfl ?_; first | refine s_val rfl rfl rfl (r_lss rfl rfl rfl) ?_ | refine s_val rfl rfl rfl (r_eql rfl rfl rfl) ?_ | refine s_val rfl rfl rfl (r_neq rfl rfl rfl) ?_ | refine s_val rfl rfl rfl (r_add rfl rfl rfl (wrap_in (by simp only [lo, hi]; omega))) ?_ | refine s_val rfl rfl rfl (r_gtr rfl rfl rfl) ?_)
      | (refine s_k 2 rfl ?_; first | refine s_val rfl rfl rfl (r_pick1 rfl rfl zTr rfl) ?_ | refine s_val rfl rfl rfl (r_pick0 rfl rfl zTr rfl) ?_)
      | (refine s_k 25 rfl ?_; first | refine s_val rfl rfl rfl (r_ixN tb rfl rfl rfl rfl (by omega)) ?_ | refine s_val rfl rfl rfl (r_ixA tb rfl rfl rfl rfl (by omega) (by omega)) ?_ | refine s_val rfl rfl rfl (r_ixO tb rfl rfl rfl rfl (by omega)) ?_)
      | (refine s_k 36 rfl ?_; refine s_val rfl rfl rfl (r_len tb rfl rfl rfl) ?_)
      | (refine s_k 34 rfl ?_; refine s_val rfl rfl rfl (r_extractL rfl rfl rfl) ?_)
      | (refine s_k 12 rfl ?_; refine s_val rfl rfl rfl (r_nil rfl rfl) ?_)
      | (refine s_k 6 rfl ?_; refine s_bsl rfl rfl (fun w => slSpot0 w) rfl rfl rfl fun blk => ?_)
      | refine s_nil ?_)
    | (refine c_g ?_; first | refine c_seq ?_ | refine c_region ?_ | (refine c_gc ?_; first | refine c_cond1 rfl zTr ?_ | refine c_cond0 rfl zTr ?_ | refine z_condd1 rfl ?_ | refine z_condd0 rfl ?_ | refine z_conddn1 rfl ?_ | refine z_conddn0 rfl ?_ | refine c_condd rfl (fun hc => ?_) (fun hc => ?_) | refine c_conddn rfl (fun hc => ?_) (fun hc => ?_) | refine c_condn rfl (fun hc => ?_) (fun hc => ?_) | refine c_cond rfl (fun hc => ?_) (fun hc => ?_)) | refine c_block ?_ | refine c_skip ?_ | refine c_exit ?_ | refine c_ret ?_)
    | (refine e_g ?_; first | refine e_then ?_ | refine e_blkn ?_ | refine e_thenx ?_ | refine e_thenr ?_ | refine e_blkr ?_ | refine e_blkx ?_ | refine e_blky rfl ?_))
  refine c_loop (ι := Nat × Nat × Nat × Array Value) (fun i => A.length - i.1) (fun i => i.1 ≤ A.length ∧ Ap 2 (specW p (A.take i.1) B).length i.2.2.1 i.2.2.2 (flS (specW p (A.take i.1) B))) (fun i => [(8, .int .i64 (i.1 : Int)), (7, .slice (some ⟨i.2.1, 0, none⟩) (specW p (A.take i.1) B).length i.2.2.1), (0, .pointer (some ⟨gp, 0, none⟩)), (1, .slice Aa A.length capa), (2, .slice Ab B.length capb)]) (fun i => [(i.2.1, 52, i.2.2.2)]) (0, blk, 0, #[]) ⟨by simp, by simp only [List.take_zero, specW_nil]; exact Ap.nil 2⟩ ?hs rfl ?_
  case hs => (repeat' (first | exact sub_nil | refine sub_cons rfl ?_ | refine sub_cons' rfl (by simp [specW_nil]) ?_))
  rintro ⟨i, g, cap, cur⟩ ⟨hle, hR⟩
  simp only at hle hR ⊢
  by_cases hlt : i < A.length
  · have hx : A[i]? = some A[i] := List.getElem?_eq_getElem hlt
    have hxa : (A.map Sp.cells)[i]? = some A[i].cells := by simp [hx]
    have hka : i < (A.map Sp.cells).length := by simpa using hlt
    have hac := hA _ (List.getElem_mem hlt)
    have he := fsR_end (p := p) (B := B) hx
    have hz := fsR_0 p (A.take i) A[i] B
    have hsc := fun k b hb => fsR_succ (p := p) (l := A.take i) (a := A[i]) (B := B) (k := k) (b := b) hb
    generalize A[i] = a at *
    have hway := fun w b hb => wayB_any p cs a b w hp hv hac hb
    have hwl := fun b (hb : cel p b) => wayV_len (p := p) (a := a) (isC_range hb)
    rw [← hz] at hR ⊢
    clear hz
    generalize hFR : fsR p (A.take i) a B = FR at *
    generalize hWV : wayV p a = WV at *
    repeat' (first
      | (refine s_g ?_; first
      | (refine s_gd rfl ?_; first | refine s_gd1 rfl rfl zTr ?_ | refine s_gd0 rfl rfl rfl zTr ?_ | refine s_gd00 rfl rfl zTr ?_ | refine s_gp1 rfl rfl rfl (fun hc => ?_) (fun hc => ?_) | refine s_gp0 rfl rfl rfl (fun hc => ?_) (fun hc => ?_) | refine s_gnp1 rfl rfl rfl (fun hc => ?_) (fun hc => ?_) | refine s_gnp0 rfl rfl rfl (fun hc => ?_) (fun hc => ?_) | refine s_gb1 rfl rfl rfl (fun hc => ?_) (fun hc => ?_) | refine s_gb0 rfl rfl rfl (fun hc => ?_) (fun hc => ?_) | refine s_gnb1 rfl rfl rfl (fun hc => ?_) (fun hc => ?_) | refine s_gnb0 rfl rfl rfl (fun hc => ?_) (fun hc => ?_))
      | (refine s_k 0 rfl ?_; refine s_val rfl rfl rfl (r_move rfl rfl) ?_)
      | (refine s_k 8 rfl ?_; first | (refine' s_val rfl rfl rfl (r_ldv rfl rfl ?qm ?qv) ?_; (case qm => (exact zMm)); (case qv => (exact zLe))) | (refine' s_val rfl rfl rfl (r_ldo rfl rfl ?qw (by simp) ?qv) ?_; (case qw => assumption); (case qv => (exact zLe))))
      | (refine s_k 1 rfl ?_; refine s_val rfl rfl rfl (r_assign rfl rfl) ?_)
      | (refine s_k 13 rfl ?_; first | refine s_val rfl rfl rfl (r_lss rfl rfl rfl) ?_ | refine s_val rfl rfl rfl (r_eql rfl rfl rfl) ?_ | refine s_val rfl rfl rfl (r_neq rfl rfl rfl) ?_ | refine s_val rfl rfl rfl (r_add rfl rfl rfl (wrap_in (by simp only [lo, hi]; omega))) ?_ | refine s_val rfl rfl rfl (r_gtr rfl rfl rfl) ?_)
      | (refine s_k 2 rfl ?_; first | refine s_val rfl rfl rfl (r_pick1 rfl rfl zTr rfl) ?_ | refine s_val rfl rfl rfl (r_pick0 rfl rfl zTr rfl) ?_)
      | (refine s_k 25 rfl ?_; first | refine s_val rfl rfl rfl (r_ixN tb rfl rfl rfl rfl (by omega)) ?_ | refine s_val rfl rfl rfl (r_ixA tb rfl rfl rfl rfl (by omega) (by omega)) ?_ | refine s_val rfl rfl rfl (r_ixO tb rfl rfl rfl rfl (by omega)) ?_)
      | (refine s_k 36 rfl ?_; refine s_val rfl rfl rfl (r_len tb rfl rfl rfl) ?_)
      | (refine s_k 34 rfl ?_; refine s_val rfl rfl rfl (r_extractL rfl rfl rfl) ?_)
      | (refine s_k 12 rfl ?_; refine s_val rfl rfl rfl (r_nil rfl rfl) ?_)
      | refine s_nil ?_)
      | (refine c_g ?_; first | refine c_seq ?_ | refine c_region ?_ | (refine c_gc ?_; first | refine c_cond1 rfl zTr ?_ | refine c_cond0 rfl zTr ?_ | refine z_condd1 rfl ?_ | refine z_condd0 rfl ?_ | refine z_conddn1 rfl ?_ | refine z_conddn0 rfl ?_ | refine c_condd rfl (fun hc => ?_) (fun hc => ?_) | refine c_conddn rfl (fun hc => ?_) (fun hc => ?_) | refine c_condn rfl (fun hc => ?_) (fun hc => ?_) | refine c_cond rfl (fun hc => ?_) (fun hc => ?_)) | refine c_block ?_ | refine c_skip ?_ | refine c_exit ?_ | refine c_ret ?_)
      | (refine e_g ?_; first | refine e_then ?_ | refine e_blkn ?_ | refine e_thenx ?_ | refine e_thenr ?_ | refine e_blkr ?_ | refine e_blkx ?_ | refine e_blky rfl ?_))
    refine c_loop (ι := Nat × Nat × Nat × Array Value) (fun j => B.length - j.1) (fun j => j.1 ≤ B.length ∧ Ap 2 (FR j.1).length j.2.2.1 j.2.2.2 (flS (FR j.1))) (fun j => [(9, .int .i64 (j.1 : Int)), (8, .int .i64 (i : Int)), (7, .slice (some ⟨j.2.1, 0, none⟩) (FR j.1).length j.2.2.1), (0, .pointer (some ⟨gp, 0, none⟩)), (1, .slice Aa A.length capa), (2, .slice Ab B.length capb)]) (fun j => [(j.2.1, 52, j.2.2.2)]) (0, g, cap, cur) ⟨by simp, hR⟩ ?hs rfl ?_
    case hs => (repeat' (first | exact sub_nil | refine sub_cons rfl ?_))
    clear hR
    rintro ⟨j, g1, cap1, cur1⟩ ⟨hlej, hR⟩
    simp only at hlej hR ⊢
    by_cases hltj : j < B.length
    · have hy : B[j]? = some B[j] := List.getElem?_eq_getElem hltj
      have hyb : (B.map Sp.cells)[j]? = some B[j].cells := by simp [hy]
      have hkb : j < (B.map Sp.cells).length := by simpa using hltj
      have hbc := hB _ (List.getElem_mem hltj)
      have hs1 := hsc j _ hy
      generalize B[j] = b at *
      have hwy := fun w => hway w b hbc
      have hvl := hwl b hbc
      have hfl := flS_len (WV b)
      have hmx : (WV b).length ≤ maxLen := by unfold maxLen; omega
      generalize WV b = V at *
      generalize hR0 : FR j = R at *
      by_cases hV0 : V = []
      case pos =>
        rw [if_pos hV0] at hwy
        rw [hV0, betS_nil] at hs1
        have hb0 : V.length = 0 := by rw [hV0]; rfl
        repeat' (first
          | (refine s_g ?_; first
      | (refine s_gd rfl ?_; first | refine s_gd1 rfl rfl zTr ?_ | refine s_gd0 rfl rfl rfl zTr ?_ | refine s_gd00 rfl rfl zTr ?_ | refine s_gdu rfl rfl rfl ?_ | refine s_gp1 rfl rfl rfl (fun hc => ?_) (fun hc => ?_) | refine s_gp0 rfl rfl rfl (fun hc => ?_) (fun hc => ?_) | refine s_gnp1 rfl rfl rfl (fun hc => ?_) (fun hc => ?_) | refine s_gnp0 rfl rfl rfl (fun hc => ?_) (fun hc => ?_) | refine s_gb1 rfl rfl rfl (fun hc => ?_) (fun hc => ?_) | refine s_gb0 rfl rfl rfl (fun hc => ?_) (fun hc => ?_) | refine s_gnb1 rfl rfl rfl (fun hc => ?_) (fun hc => ?_) | refine s_gnb0 rfl rfl rfl (fun hc => ?_) (fun hc => ?_))
      | (refine s_k 0 rfl ?_; refine s_val rfl rfl rfl (r_move rfl rfl) ?_)
      | (refine s_k 8 rfl ?_; first | refine s_val rfl rfl rfl (r_ldo rfl rfl hg (by simp) (ldvW tb rfl hsz)) ?_ | refine s_val rfl rfl rfl (r_ldS tb rfl hSA rfl hxa rfl) ?_ | refine s_val rfl rfl rfl (r_ldS tb rfl hSB rfl hyb rfl) ?_ | (refine' s_val rfl rfl rfl (r_ldv rfl rfl ?qm ?qv) ?_; (case qm => (exact zMm)); (case qv => (exact zLe))) | (refine' s_val rfl rfl rfl (r_ldo rfl rfl ?qw (by simp) ?qv) ?_; (case qw => assumption); (case qv => (exact zLe))))
      | (refine s_k 1 rfl ?_; refine s_val rfl rfl rfl (r_assign rfl rfl) ?_)
      | (refine s_k 13 rfl ?_; first | refine s_val rfl rfl rfl (r_lss rfl rfl rfl) ?_ | refine s_val rfl rfl rfl (r_eql rfl rfl rfl) ?_ | refine s_val rfl rfl rfl (r_neq rfl rfl rfl) ?_ | refine s_val rfl rfl rfl (r_add rfl rfl rfl (wrap_in (by simp only [lo, hi]; omega))) ?_ | refine s_val rfl rfl rfl (r_gtr rfl rfl rfl) ?_)
      | (refine s_k 2 rfl ?_; first | refine s_val rfl rfl rfl (r_pick1 rfl rfl zTr rfl) ?_ | refine s_val rfl rfl rfl (r_pick0 rfl rfl zTr rfl) ?_)
      | (refine s_k 25 rfl ?_; first | refine s_val rfl rfl rfl (r_ixS tb rfl hSA rfl rfl rfl (by simp) hka) ?_ | refine s_val rfl rfl rfl (r_ixS tb rfl hSB rfl rfl rfl (by simp) hkb) ?_ | refine s_val rfl rfl rfl (r_ixN tb rfl rfl rfl rfl (by omega)) ?_ | refine s_val rfl rfl rfl (r_ixA tb rfl rfl rfl rfl (by omega) (by omega)) ?_ | refine s_val rfl rfl rfl (r_ixO tb rfl rfl rfl rfl (by omega)) ?_)
      | (refine s_k 36 rfl ?_; refine s_val rfl rfl rfl (r_len tb rfl rfl rfl) ?_)
      | (refine s_k 34 rfl ?_; refine s_val rfl rfl rfl (r_extractL rfl rfl rfl) ?_)
      | (refine s_k 12 rfl ?_; refine s_val rfl rfl rfl (r_nil rfl rfl) ?_)
      | refine s_nil ?_)
          | (refine c_g ?_; first | refine c_seq ?_ | refine c_region ?_ | (refine c_gc ?_; first | refine c_cond1 rfl zTr ?_ | refine c_cond0 rfl zTr ?_ | refine z_condd1 rfl ?_ | refine z_condd0 rfl ?_ | refine z_conddn1 rfl ?_ | refine z_conddn0 rfl ?_ | refine c_condd rfl (fun hc => ?_) (fun hc => ?_) | refine c_conddn rfl (fun hc => ?_) (fun hc => ?_) | refine c_condn rfl (fun hc => ?_) (fun hc => ?_) | refine c_cond rfl (fun hc => ?_) (fun hc => ?_)) | refine c_block ?_ | refine c_skip ?_ | refine c_exit ?_ | refine c_ret ?_)
          | (refine e_g ?_; first | refine e_then ?_ | refine e_blkn ?_ | refine e_thenx ?_ | refine e_thenr ?_ | refine e_blkr ?_ | refine e_blkx ?_ | refine e_blky rfl ?_)
          | (refine y_g ?_; first
      | (refine y_gd rfl ?_; first | refine y_gd1 rfl rfl zTr ?_ | (refine y_gd0 rfl rfl rfl zTr ?hp ?_; (case hp => exact rfl)))
      | (refine y_k 8 rfl ?_; first | (refine y_val rfl rfl rfl (r_ldo rfl rfl hg (by simp) (ldvW tb rfl hsz)) ?hp ?_; (case hp => exact rfl)) | (refine y_val rfl rfl rfl (r_ldS tb rfl hSA rfl hxa rfl) ?hp ?_; (case hp => exact rfl)) | (refine y_val rfl rfl rfl (r_ldS tb rfl hSB rfl hyb rfl) ?hp ?_; (case hp => exact rfl)) | (refine' y_val rfl rfl rfl (r_ldv rfl rfl ?qm ?qv) ?hp ?_; (case qm => (exact zMm)); (case qv => (exact zLe)); (case hp => exact rfl)) | (refine' y_val rfl rfl rfl (r_ldo rfl rfl ?qw (by simp) ?qv) ?hp ?_; (case qw => assumption); (case qv => (exact zLe)); (case hp => exact rfl)))
      | (refine y_k 13 rfl ?_; first | (refine y_val rfl rfl rfl (r_lss rfl rfl rfl) ?hp ?_; (case hp => exact rfl)) | (refine y_val rfl rfl rfl (r_eql rfl rfl rfl) ?hp ?_; (case hp => exact rfl)) | (refine y_val rfl rfl rfl (r_neq rfl rfl rfl) ?hp ?_; (case hp => exact rfl)) | (refine y_val rfl rfl rfl (r_add rfl rfl rfl (wrap_in (by simp only [lo, hi]; omega))) ?hp ?_; (case hp => exact rfl)) | (refine y_val rfl rfl rfl (r_gtr rfl rfl rfl) ?hp ?_; (case hp => exact rfl)))
      | (refine y_k 35 rfl ?_; (refine' y_callN2 Try.func72 (by kernel_rfl) rfl rfl rfl rfl rfl rfl (fun w hL => hwy w) hfl hmx ?hp (fun gv kv capv curv hAv => ?_); (case hp => exact rfl); obtain rfl := hAv.cnt))
      | (refine y_k 2 rfl ?_; first | (refine y_val rfl rfl rfl (r_pick1 rfl rfl zTr rfl) ?hp ?_; (case hp => exact rfl)) | (refine y_val rfl rfl rfl (r_pick0 rfl rfl zTr rfl) ?hp ?_; (case hp => exact rfl)))
      | (refine y_k 25 rfl ?_; first | (refine y_val rfl rfl rfl (r_ixS tb rfl hSA rfl rfl rfl (by simp) hka) ?hp ?_; (case hp => exact rfl)) | (refine y_val rfl rfl rfl (r_ixS tb rfl hSB rfl rfl rfl (by simp) hkb) ?hp ?_; (case hp => exact rfl)) | (refine y_val rfl rfl rfl (r_ixN tb rfl rfl rfl rfl (by omega)) ?hp ?_; (case hp => exact rfl)) | (refine y_val rfl rfl rfl (r_ixA tb rfl rfl rfl rfl (by omega) (by omega)) ?hp ?_; (case hp => exact rfl)) | (refine y_val rfl rfl rfl (r_ixO tb rfl rfl rfl rfl (by omega)) ?hp ?_; (case hp => exact rfl)))
      | (refine y_k 36 rfl ?_; (refine y_val rfl rfl rfl (r_len tb rfl rfl rfl) ?hp ?_; (case hp => exact rfl)))
      | (refine y_k 12 rfl ?_; (refine y_val rfl rfl rfl (r_nil rfl rfl) ?hp ?_; (case hp => exact rfl)))
      | refine y_nil0 ?_
      | refine y_nil ?_
      | (refine' y_k 0 rfl ?_; (refine' y_move rfl rfl rfl rfl rfl ?hp ?_; (case hp => exact rfl)))
      | (refine' y_k 1 rfl ?_; (refine' y_assign rfl rfl rfl rfl rfl ?hp ?_; (case hp => exact rfl)))
      | (refine' y_k 34 rfl ?_; (refine' y_extract rfl rfl rfl rfl rfl rfl ?hp ?_; (case hp => exact rfl))))
          | (refine' c_drawY (id := 8) [(Sum.inl _ : CalmB.Plan), (Sum.inl _ : CalmB.Plan), (Sum.inl _ : CalmB.Plan), (Sum.inl _ : CalmB.Plan), (Sum.inl _ : CalmB.Plan), (Sum.inl _ : CalmB.Plan), (Sum.inl _ : CalmB.Plan), (Sum.inl _ : CalmB.Plan), (Sum.inl _ : CalmB.Plan), (Sum.inl _ : CalmB.Plan), (Sum.inl _ : CalmB.Plan), (Sum.inr _ : CalmB.Plan), (Sum.inl _ : CalmB.Plan), (Sum.inl _ : CalmB.Plan), (Sum.inl _ : CalmB.Plan), (Sum.inl _ : CalmB.Plan), (Sum.inl _ : CalmB.Plan)] (by kernel_rfl) (by kernel_rfl) ?_)
          | (refine e_drop0 (e_round (j + 1, g1, cap1, cur1) (by simp; omega) ⟨by simp; omega, by simp only; rw [hs1]; exact hR⟩ ?_ rfl); (repeat' (first | exact sub_nil | refine sub_cons rfl ?_ | refine sub_cons' rfl (by simp [hs1]) ?_))))
      case neg =>
        rw [if_neg hV0] at hwy
        have hvp : 0 < V.length := List.length_pos_iff.2 hV0
        have hrl := hR.le
        by_cases hR1 : R = []
        case pos =>
          have hr0 : R.length = 0 := by rw [hR1]; rfl
          have hs1 : FR (j + 1) = V := by rw [hs1, hR1, betS_first hV0]
          repeat' (first
            | (refine s_g ?_; first
      | (refine s_gd rfl ?_; first | refine s_gd1 rfl rfl zTr ?_ | refine s_gd0 rfl rfl rfl zTr ?_ | refine s_gd00 rfl rfl zTr ?_ | refine s_gdu rfl rfl rfl ?_ | refine s_gp1 rfl rfl rfl (fun hc => ?_) (fun hc => ?_) | refine s_gp0 rfl rfl rfl (fun hc => ?_) (fun hc => ?_) | refine s_gnp1 rfl rfl rfl (fun hc => ?_) (fun hc => ?_) | refine s_gnp0 rfl rfl rfl (fun hc => ?_) (fun hc => ?_) | refine s_gb1 rfl rfl rfl (fun hc => ?_) (fun hc => ?_) | refine s_gb0 rfl rfl rfl (fun hc => ?_) (fun hc => ?_) | refine s_gnb1 rfl rfl rfl (fun hc => ?_) (fun hc => ?_) | refine s_gnb0 rfl rfl rfl (fun hc => ?_) (fun hc => ?_))
      | (refine s_k 0 rfl ?_; refine s_val rfl rfl rfl (r_move rfl rfl) ?_)
      | (refine s_k 8 rfl ?_; first | refine s_val rfl rfl rfl (r_ldo rfl rfl hg (by simp) (ldvW tb rfl hsz)) ?_ | refine s_val rfl rfl rfl (r_ldS tb rfl hSA rfl hxa rfl) ?_ | refine s_val rfl rfl rfl (r_ldS tb rfl hSB rfl hyb rfl) ?_ | (refine' s_val rfl rfl rfl (r_ldv rfl rfl ?qm ?qv) ?_; (case qm => (exact zMm)); (case qv => (exact zLe))) | (refine' s_val rfl rfl rfl (r_ldo rfl rfl ?qw (by simp) ?qv) ?_; (case qw => assumption); (case qv => (exact zLe))))
      | (refine s_k 1 rfl ?_; refine s_val rfl rfl rfl (r_assign rfl rfl) ?_)
      | (refine s_k 13 rfl ?_; first | refine s_val rfl rfl rfl (r_lss rfl rfl rfl) ?_ | refine s_val rfl rfl rfl (r_eql rfl rfl rfl) ?_ | refine s_val rfl rfl rfl (r_neq rfl rfl rfl) ?_ | refine s_val rfl rfl rfl (r_add rfl rfl rfl (wrap_in (by simp only [lo, hi]; omega))) ?_ | refine s_val rfl rfl rfl (r_gtr rfl rfl rfl) ?_)
      | (refine s_k 2 rfl ?_; first | refine s_val rfl rfl rfl (r_pick1 rfl rfl zTr rfl) ?_ | refine s_val rfl rfl rfl (r_pick0 rfl rfl zTr rfl) ?_)
      | (refine s_k 25 rfl ?_; first | refine s_val rfl rfl rfl (r_ixS tb rfl hSA rfl rfl rfl (by simp) hka) ?_ | refine s_val rfl rfl rfl (r_ixS tb rfl hSB rfl rfl rfl (by simp) hkb) ?_ | refine s_val rfl rfl rfl (r_ixN tb rfl rfl rfl rfl (by omega)) ?_ | refine s_val rfl rfl rfl (r_ixA tb rfl rfl rfl rfl (by omega) (by omega)) ?_ | refine s_val rfl rfl rfl (r_ixO tb rfl rfl rfl rfl (by omega)) ?_)
      | (refine s_k 36 rfl ?_; refine s_val rfl rfl rfl (r_len tb rfl rfl rfl) ?_)
      | (refine s_k 34 rfl ?_; refine s_val rfl rfl rfl (r_extractL rfl rfl rfl) ?_)
      | (refine s_k 12 rfl ?_; refine s_val rfl rfl rfl (r_nil rfl rfl) ?_)
      | refine s_nil ?_)
            | (refine c_g ?_; first | refine c_seq ?_ | refine c_region ?_ | (refine c_gc ?_; first | refine c_cond1 rfl zTr ?_ | refine c_cond0 rfl zTr ?_ | refine z_condd1 rfl ?_ | refine z_condd0 rfl ?_ | refine z_conddn1 rfl ?_ | refine z_conddn0 rfl ?_ | refine c_condd rfl (fun hc => ?_) (fun hc => ?_) | refine c_conddn rfl (fun hc => ?_) (fun hc => ?_) | refine c_condn rfl (fun hc => ?_) (fun hc => ?_) | refine c_cond rfl (fun hc => ?_) (fun hc => ?_)) | refine c_block ?_ | refine c_skip ?_ | refine c_exit ?_ | refine c_ret ?_)
            | (refine e_g ?_; first | refine e_then ?_ | refine e_blkn ?_ | refine e_thenx ?_ | refine e_thenr ?_ | refine e_blkr ?_ | refine e_blkx ?_ | refine e_blky rfl ?_)
            | (refine y_g ?_; first
      | (refine y_gd rfl ?_; first | refine y_gd1 rfl rfl zTr ?_ | (refine y_gd0 rfl rfl rfl zTr ?hp ?_; (case hp => exact rfl)))
      | (refine y_k 8 rfl ?_; first | (refine y_val rfl rfl rfl (r_ldo rfl rfl hg (by simp) (ldvW tb rfl hsz)) ?hp ?_; (case hp => exact rfl)) | (refine y_val rfl rfl rfl (r_ldS tb rfl hSA rfl hxa rfl) ?hp ?_; (case hp => exact rfl)) | (refine y_val rfl rfl rfl (r_ldS tb rfl hSB rfl hyb rfl) ?hp ?_; (case hp => exact rfl)) | (refine' y_val rfl rfl rfl (r_ldv rfl rfl ?qm ?qv) ?hp ?_; (case qm => (exact zMm)); (case qv => (exact zLe)); (case hp => exact rfl)) | (refine' y_val rfl rfl rfl (r_ldo rfl rfl ?qw (by simp) ?qv) ?hp ?_; (case qw => assumption); (case qv => (exact zLe)); (case hp => exact rfl)))
      | (refine y_k 13 rfl ?_; first | (refine y_val rfl rfl rfl (r_lss rfl rfl rfl) ?hp ?_; (case hp => exact rfl)) | (refine y_val rfl rfl rfl (r_eql rfl rfl rfl) ?hp ?_; (case hp => exact rfl)) | (refine y_val rfl rfl rfl (r_neq rfl rfl rfl) ?hp ?_; (case hp => exact rfl)) | (refine y_val rfl rfl rfl (r_add rfl rfl rfl (wrap_in (by simp only [lo, hi]; omega))) ?hp ?_; (case hp => exact rfl)) | (refine y_val rfl rfl rfl (r_gtr rfl rfl rfl) ?hp ?_; (case hp => exact rfl)))
      | (refine y_k 35 rfl ?_; (refine' y_callN2 Try.func72 (by kernel_rfl) rfl rfl rfl rfl rfl rfl (fun w hL => hwy w) hfl hmx ?hp (fun gv kv capv curv hAv => ?_); (case hp => exact rfl); obtain rfl := hAv.cnt))
      | (refine y_k 2 rfl ?_; first | (refine y_val rfl rfl rfl (r_pick1 rfl rfl zTr rfl) ?hp ?_; (case hp => exact rfl)) | (refine y_val rfl rfl rfl (r_pick0 rfl rfl zTr rfl) ?hp ?_; (case hp => exact rfl)))
      | (refine y_k 25 rfl ?_; first | (refine y_val rfl rfl rfl (r_ixS tb rfl hSA rfl rfl rfl (by simp) hka) ?hp ?_; (case hp => exact rfl)) | (refine y_val rfl rfl rfl (r_ixS tb rfl hSB rfl rfl rfl (by simp) hkb) ?hp ?_; (case hp => exact rfl)) | (refine y_val rfl rfl rfl (r_ixN tb rfl rfl rfl rfl (by omega)) ?hp ?_; (case hp => exact rfl)) | (refine y_val rfl rfl rfl (r_ixA tb rfl rfl rfl rfl (by omega) (by omega)) ?hp ?_; (case hp => exact rfl)) | (refine y_val rfl rfl rfl (r_ixO tb rfl rfl rfl rfl (by omega)) ?hp ?_; (case hp => exact rfl)))
      | (refine y_k 36 rfl ?_; (refine y_val rfl rfl rfl (r_len tb rfl rfl rfl) ?hp ?_; (case hp => exact rfl)))
      | (refine y_k 12 rfl ?_; (refine y_val rfl rfl rfl (r_nil rfl rfl) ?hp ?_; (case hp => exact rfl)))
      | refine y_nil0 ?_
      | refine y_nil ?_
      | (refine' y_k 0 rfl ?_; (refine' y_move rfl rfl rfl rfl rfl ?hp ?_; (case hp => exact rfl)))
      | (refine' y_k 1 rfl ?_; (refine' y_assign rfl rfl rfl rfl rfl ?hp ?_; (case hp => exact rfl)))
      | (refine' y_k 34 rfl ?_; (refine' y_extract rfl rfl rfl rfl rfl rfl ?hp ?_; (case hp => exact rfl))))
            | (refine' c_drawY (id := 8) [(Sum.inl _ : CalmB.Plan), (Sum.inl _ : CalmB.Plan), (Sum.inl _ : CalmB.Plan), (Sum.inl _ : CalmB.Plan), (Sum.inl _ : CalmB.Plan), (Sum.inl _ : CalmB.Plan), (Sum.inl _ : CalmB.Plan), (Sum.inl _ : CalmB.Plan), (Sum.inl _ : CalmB.Plan), (Sum.inl _ : CalmB.Plan), (Sum.inl _ : CalmB.Plan), (Sum.inr _ : CalmB.Plan), (Sum.inl _ : CalmB.Plan), (Sum.inl _ : CalmB.Plan), (Sum.inl _ : CalmB.Plan), (Sum.inl _ : CalmB.Plan), (Sum.inl _ : CalmB.Plan)] (by kernel_rfl) (by kernel_rfl) ?_)
            | (refine e_rot1 (e_drop0 (e_round (j + 1, gv, capv, curv) (by simp; omega) ⟨by simp; omega, by simp only; rw [hs1]; exact hAv⟩ ?_ rfl)); (repeat' (first | exact sub_nil | refine sub_cons rfl ?_ | refine sub_cons' rfl (by simp [hs1]) ?_))))
        case neg =>
          have hrp : 0 < R.length := List.length_pos_iff.2 hR1
          rcases Nat.lt_trichotomy R.length V.length with hlen | hlen | hlen
          · rw [betS_long hR1 hV0 hlen] at hs1
            repeat' (first
              | (refine s_g ?_; first
      | (refine s_gd rfl ?_; first | refine s_gd1 rfl rfl zTr ?_ | refine s_gd0 rfl rfl rfl zTr ?_ | refine s_gd00 rfl rfl zTr ?_ | refine s_gdu rfl rfl rfl ?_ | refine s_gp1 rfl rfl rfl (fun hc => ?_) (fun hc => ?_) | refine s_gp0 rfl rfl rfl (fun hc => ?_) (fun hc => ?_) | refine s_gnp1 rfl rfl rfl (fun hc => ?_) (fun hc => ?_) | refine s_gnp0 rfl rfl rfl (fun hc => ?_) (fun hc => ?_) | refine s_gb1 rfl rfl rfl (fun hc => ?_) (fun hc => ?_) | refine s_gb0 rfl rfl rfl (fun hc => ?_) (fun hc => ?_) | refine s_gnb1 rfl rfl rfl (fun hc => ?_) (fun hc => ?_) | refine s_gnb0 rfl rfl rfl (fun hc => ?_) (fun hc => ?_))
      | (refine s_k 0 rfl ?_; refine s_val rfl rfl rfl (r_move rfl rfl) ?_)
      | (refine s_k 8 rfl ?_; first | refine s_val rfl rfl rfl (r_ldo rfl rfl hg (by simp) (ldvW tb rfl hsz)) ?_ | refine s_val rfl rfl rfl (r_ldS tb rfl hSA rfl hxa rfl) ?_ | refine s_val rfl rfl rfl (r_ldS tb rfl hSB rfl hyb rfl) ?_ | (refine' s_val rfl rfl rfl (r_ldv rfl rfl ?qm ?qv) ?_; (case qm => (exact zMm)); (case qv => (exact zLe))) | (refine' s_val rfl rfl rfl (r_ldo rfl rfl ?qw (by simp) ?qv) ?_; (case qw => assumption); (case qv => (exact zLe))))
      | (refine s_k 1 rfl ?_; refine s_val rfl rfl rfl (r_assign rfl rfl) ?_)
      | (refine s_k 13 rfl ?_; first | refine s_val rfl rfl rfl (r_lss rfl rfl rfl) ?_ | refine s_val rfl rfl rfl (r_eql rfl rfl rfl) ?_ | refine s_val rfl rfl rfl (r_neq rfl rfl rfl) ?_ | refine s_val rfl rfl rfl (r_add rfl rfl rfl (wrap_in (by simp only [lo, hi]; omega))) ?_ | refine s_val rfl rfl rfl (r_gtr rfl rfl rfl) ?_)
      | (refine s_k 2 rfl ?_; first | refine s_val rfl rfl rfl (r_pick1 rfl rfl zTr rfl) ?_ | refine s_val rfl rfl rfl (r_pick0 rfl rfl zTr rfl) ?_)
      | (refine s_k 25 rfl ?_; first | refine s_val rfl rfl rfl (r_ixS tb rfl hSA rfl rfl rfl (by simp) hka) ?_ | refine s_val rfl rfl rfl (r_ixS tb rfl hSB rfl rfl rfl (by simp) hkb) ?_ | refine s_val rfl rfl rfl (r_ixN tb rfl rfl rfl rfl (by omega)) ?_ | refine s_val rfl rfl rfl (r_ixA tb rfl rfl rfl rfl (by omega) (by omega)) ?_ | refine s_val rfl rfl rfl (r_ixO tb rfl rfl rfl rfl (by omega)) ?_)
      | (refine s_k 36 rfl ?_; refine s_val rfl rfl rfl (r_len tb rfl rfl rfl) ?_)
      | (refine s_k 34 rfl ?_; refine s_val rfl rfl rfl (r_extractL rfl rfl rfl) ?_)
      | (refine s_k 12 rfl ?_; refine s_val rfl rfl rfl (r_nil rfl rfl) ?_)
      | refine s_nil ?_)
              | (refine c_g ?_; first | refine c_seq ?_ | refine c_region ?_ | (refine c_gc ?_; first | refine c_cond1 rfl zTr ?_ | refine c_cond0 rfl zTr ?_ | refine z_condd1 rfl ?_ | refine z_condd0 rfl ?_ | refine z_conddn1 rfl ?_ | refine z_conddn0 rfl ?_ | refine c_condd rfl (fun hc => ?_) (fun hc => ?_) | refine c_conddn rfl (fun hc => ?_) (fun hc => ?_) | refine c_condn rfl (fun hc => ?_) (fun hc => ?_) | refine c_cond rfl (fun hc => ?_) (fun hc => ?_)) | refine c_block ?_ | refine c_skip ?_ | refine c_exit ?_ | refine c_ret ?_)
              | (refine e_g ?_; first | refine e_then ?_ | refine e_blkn ?_ | refine e_thenx ?_ | refine e_thenr ?_ | refine e_blkr ?_ | refine e_blkx ?_ | refine e_blky rfl ?_)
              | (refine y_g ?_; first
      | (refine y_gd rfl ?_; first | refine y_gd1 rfl rfl zTr ?_ | (refine y_gd0 rfl rfl rfl zTr ?hp ?_; (case hp => exact rfl)))
      | (refine y_k 8 rfl ?_; first | (refine y_val rfl rfl rfl (r_ldo rfl rfl hg (by simp) (ldvW tb rfl hsz)) ?hp ?_; (case hp => exact rfl)) | (refine y_val rfl rfl rfl (r_ldS tb rfl hSA rfl hxa rfl) ?hp ?_; (case hp => exact rfl)) | (refine y_val rfl rfl rfl (r_ldS tb rfl hSB rfl hyb rfl) ?hp ?_; (case hp => exact rfl)) | (refine' y_val rfl rfl rfl (r_ldv rfl rfl ?qm ?qv) ?hp ?_; (case qm => (exact zMm)); (case qv => (exact zLe)); (case hp => exact rfl)) | (refine' y_val rfl rfl rfl (r_ldo rfl rfl ?qw (by simp) ?qv) ?hp ?_; (case qw => assumption); (case qv => (exact zLe)); (case hp => exact rfl)))
      | (refine y_k 13 rfl ?_; first | (refine y_val rfl rfl rfl (r_lss rfl rfl rfl) ?hp ?_; (case hp => exact rfl)) | (refine y_val rfl rfl rfl (r_eql rfl rfl rfl) ?hp ?_; (case hp => exact rfl)) | (refine y_val rfl rfl rfl (r_neq rfl rfl rfl) ?hp ?_; (case hp => exact rfl)) | (refine y_val rfl rfl rfl (r_add rfl rfl rfl (wrap_in (by simp only [lo, hi]; omega))) ?hp ?_; (case hp => exact rfl)) | (refine y_val rfl rfl rfl (r_gtr rfl rfl rfl) ?hp ?_; (case hp => exact rfl)))
      | (refine y_k 35 rfl ?_; (refine' y_callN2 Try.func72 (by kernel_rfl) rfl rfl rfl rfl rfl rfl (fun w hL => hwy w) hfl hmx ?hp (fun gv kv capv curv hAv => ?_); (case hp => exact rfl); obtain rfl := hAv.cnt))
      | (refine y_k 2 rfl ?_; first | (refine y_val rfl rfl rfl (r_pick1 rfl rfl zTr rfl) ?hp ?_; (case hp => exact rfl)) | (refine y_val rfl rfl rfl (r_pick0 rfl rfl zTr rfl) ?hp ?_; (case hp => exact rfl)))
      | (refine y_k 25 rfl ?_; first | (refine y_val rfl rfl rfl (r_ixS tb rfl hSA rfl rfl rfl (by simp) hka) ?hp ?_; (case hp => exact rfl)) | (refine y_val rfl rfl rfl (r_ixS tb rfl hSB rfl rfl rfl (by simp) hkb) ?hp ?_; (case hp => exact rfl)) | (refine y_val rfl rfl rfl (r_ixN tb rfl rfl rfl rfl (by omega)) ?hp ?_; (case hp => exact rfl)) | (refine y_val rfl rfl rfl (r_ixA tb rfl rfl rfl rfl (by omega) (by omega)) ?hp ?_; (case hp => exact rfl)) | (refine y_val rfl rfl rfl (r_ixO tb rfl rfl rfl rfl (by omega)) ?hp ?_; (case hp => exact rfl)))
      | (refine y_k 36 rfl ?_; (refine y_val rfl rfl rfl (r_len tb rfl rfl rfl) ?hp ?_; (case hp => exact rfl)))
      | (refine y_k 12 rfl ?_; (refine y_val rfl rfl rfl (r_nil rfl rfl) ?hp ?_; (case hp => exact rfl)))
      | refine y_nil0 ?_
      | refine y_nil ?_
      | (refine' y_k 0 rfl ?_; (refine' y_move rfl rfl rfl rfl rfl ?hp ?_; (case hp => exact rfl)))
      | (refine' y_k 1 rfl ?_; (refine' y_assign rfl rfl rfl rfl rfl ?hp ?_; (case hp => exact rfl)))
      | (refine' y_k 34 rfl ?_; (refine' y_extract rfl rfl rfl rfl rfl rfl ?hp ?_; (case hp => exact rfl))))
              | (refine' c_drawY (id := 8) [(Sum.inl _ : CalmB.Plan), (Sum.inl _ : CalmB.Plan), (Sum.inl _ : CalmB.Plan), (Sum.inl _ : CalmB.Plan), (Sum.inl _ : CalmB.Plan), (Sum.inl _ : CalmB.Plan), (Sum.inl _ : CalmB.Plan), (Sum.inl _ : CalmB.Plan), (Sum.inl _ : CalmB.Plan), (Sum.inl _ : CalmB.Plan), (Sum.inl _ : CalmB.Plan), (Sum.inr _ : CalmB.Plan), (Sum.inl _ : CalmB.Plan), (Sum.inl _ : CalmB.Plan), (Sum.inl _ : CalmB.Plan), (Sum.inl _ : CalmB.Plan), (Sum.inl _ : CalmB.Plan)] (by kernel_rfl) (by kernel_rfl) ?_)
              | (refine e_drop0 (e_round (j + 1, g1, cap1, cur1) (by simp; omega) ⟨by simp; omega, by simp only; rw [hs1]; exact hR⟩ ?_ rfl); (repeat' (first | exact sub_nil | refine sub_cons rfl ?_ | refine sub_cons' rfl (by simp [hs1]) ?_))))
          · have hsl : V.length = R.length := hlen.symm
            have hl20 : V.length ≤ 1048576 := by omega
            rw [betS_same hR1 hV0 hsl] at hs1
            have hah := fun A B ca cb w hSa hSb => l03Ahead_any V R A B ca cb w hSa hSb hsl hl20
            cases ha : ahB V R
            all_goals rw [ha] at hah
            · rw [ha, if_neg (by simp)] at hs1
              repeat' (first
                | (refine s_g ?_; first
      | (refine s_gd rfl ?_; first | refine s_gd1 rfl rfl zTr ?_ | refine s_gd0 rfl rfl rfl zTr ?_ | refine s_gd00 rfl rfl zTr ?_ | refine s_gdu rfl rfl rfl ?_ | refine s_gp1 rfl rfl rfl (fun hc => ?_) (fun hc => ?_) | refine s_gp0 rfl rfl rfl (fun hc => ?_) (fun hc => ?_) | refine s_gnp1 rfl rfl rfl (fun hc => ?_) (fun hc => ?_) | refine s_gnp0 rfl rfl rfl (fun hc => ?_) (fun hc => ?_) | refine s_gb1 rfl rfl rfl (fun hc => ?_) (fun hc => ?_) | refine s_gb0 rfl rfl rfl (fun hc => ?_) (fun hc => ?_) | refine s_gnb1 rfl rfl rfl (fun hc => ?_) (fun hc => ?_) | refine s_gnb0 rfl rfl rfl (fun hc => ?_) (fun hc => ?_))
      | (refine s_k 0 rfl ?_; refine s_val rfl rfl rfl (r_move rfl rfl) ?_)
      | (refine s_k 8 rfl ?_; first | refine s_val rfl rfl rfl (r_ldo rfl rfl hg (by simp) (ldvW tb rfl hsz)) ?_ | refine s_val rfl rfl rfl (r_ldS tb rfl hSA rfl hxa rfl) ?_ | refine s_val rfl rfl rfl (r_ldS tb rfl hSB rfl hyb rfl) ?_ | (refine' s_val rfl rfl rfl (r_ldv rfl rfl ?qm ?qv) ?_; (case qm => (exact zMm)); (case qv => (exact zLe))) | (refine' s_val rfl rfl rfl (r_ldo rfl rfl ?qw (by simp) ?qv) ?_; (case qw => assumption); (case qv => (exact zLe))))
      | (refine s_k 1 rfl ?_; refine s_val rfl rfl rfl (r_assign rfl rfl) ?_)
      | (refine s_k 13 rfl ?_; first | refine s_val rfl rfl rfl (r_lss rfl rfl rfl) ?_ | refine s_val rfl rfl rfl (r_eql rfl rfl rfl) ?_ | refine s_val rfl rfl rfl (r_neq rfl rfl rfl) ?_ | refine s_val rfl rfl rfl (r_add rfl rfl rfl (wrap_in (by simp only [lo, hi]; omega))) ?_ | refine s_val rfl rfl rfl (r_gtr rfl rfl rfl) ?_)
      | (refine s_k 35 rfl ?_; (refine s_call Try.func73 (by kernel_rfl) rfl rfl rfl rfl rfl rfl (fun w hL => hah _ _ _ _ w (hAv.slA (lenSp V) (hL.at_ m0)) (hR.slA (lenSp R) (hL.at_ m1))) ?_))
      | (refine s_k 2 rfl ?_; first | refine s_val rfl rfl rfl (r_pick1 rfl rfl zTr rfl) ?_ | refine s_val rfl rfl rfl (r_pick0 rfl rfl zTr rfl) ?_)
      | (refine s_k 25 rfl ?_; first | refine s_val rfl rfl rfl (r_ixS tb rfl hSA rfl rfl rfl (by simp) hka) ?_ | refine s_val rfl rfl rfl (r_ixS tb rfl hSB rfl rfl rfl (by simp) hkb) ?_ | refine s_val rfl rfl rfl (r_ixN tb rfl rfl rfl rfl (by omega)) ?_ | refine s_val rfl rfl rfl (r_ixA tb rfl rfl rfl rfl (by omega) (by omega)) ?_ | refine s_val rfl rfl rfl (r_ixO tb rfl rfl rfl rfl (by omega)) ?_)
      | (refine s_k 36 rfl ?_; refine s_val rfl rfl rfl (r_len tb rfl rfl rfl) ?_)
      | (refine s_k 34 rfl ?_; refine s_val rfl rfl rfl (r_extractL rfl rfl rfl) ?_)
      | (refine s_k 12 rfl ?_; refine s_val rfl rfl rfl (r_nil rfl rfl) ?_)
      | refine s_nil ?_)
                | (refine c_g ?_; first | refine c_seq ?_ | refine c_region ?_ | (refine c_gc ?_; first | refine c_cond1 rfl zTr ?_ | refine c_cond0 rfl zTr ?_ | refine z_condd1 rfl ?_ | refine z_condd0 rfl ?_ | refine z_conddn1 rfl ?_ | refine z_conddn0 rfl ?_ | refine c_condd rfl (fun hc => ?_) (fun hc => ?_) | refine c_conddn rfl (fun hc => ?_) (fun hc => ?_) | refine c_condn rfl (fun hc => ?_) (fun hc => ?_) | refine c_cond rfl (fun hc => ?_) (fun hc => ?_)) | refine c_block ?_ | refine c_skip ?_ | refine c_exit ?_ | refine c_ret ?_)
                | (refine e_g ?_; first | refine e_then ?_ | refine e_blkn ?_ | refine e_thenx ?_ | refine e_thenr ?_ | refine e_blkr ?_ | refine e_blkx ?_ | refine e_blky rfl ?_)
                | (refine y_g ?_; first
      | (refine y_gd rfl ?_; first | refine y_gd1 rfl rfl zTr ?_ | (refine y_gd0 rfl rfl rfl zTr ?hp ?_; (case hp => exact rfl)))
      | (refine y_k 8 rfl ?_; first | (refine y_val rfl rfl rfl (r_ldo rfl rfl hg (by simp) (ldvW tb rfl hsz)) ?hp ?_; (case hp => exact rfl)) | (refine y_val rfl rfl rfl (r_ldS tb rfl hSA rfl hxa rfl) ?hp ?_; (case hp => exact rfl)) | (refine y_val rfl rfl rfl (r_ldS tb rfl hSB rfl hyb rfl) ?hp ?_; (case hp => exact rfl)) | (refine' y_val rfl rfl rfl (r_ldv rfl rfl ?qm ?qv) ?hp ?_; (case qm => (exact zMm)); (case qv => (exact zLe)); (case hp => exact rfl)) | (refine' y_val rfl rfl rfl (r_ldo rfl rfl ?qw (by simp) ?qv) ?hp ?_; (case qw => assumption); (case qv => (exact zLe)); (case hp => exact rfl)))
      | (refine y_k 13 rfl ?_; first | (refine y_val rfl rfl rfl (r_lss rfl rfl rfl) ?hp ?_; (case hp => exact rfl)) | (refine y_val rfl rfl rfl (r_eql rfl rfl rfl) ?hp ?_; (case hp => exact rfl)) | (refine y_val rfl rfl rfl (r_neq rfl rfl rfl) ?hp ?_; (case hp => exact rfl)) | (refine y_val rfl rfl rfl (r_add rfl rfl rfl (wrap_in (by simp only [lo, hi]; omega))) ?hp ?_; (case hp => exact rfl)) | (refine y_val rfl rfl rfl (r_gtr rfl rfl rfl) ?hp ?_; (case hp => exact rfl)))
      | (refine y_k 35 rfl ?_; first | (refine y_call Try.func73 (by kernel_rfl) rfl rfl rfl rfl rfl rfl (fun w hL => hah _ _ _ _ w (hAv.slA (lenSp V) (hL.at_ m0)) (hR.slA (lenSp R) (hL.at_ m1))) ?hp ?_; (case hp => exact rfl)) | (refine' y_callN2 Try.func72 (by kernel_rfl) rfl rfl rfl rfl rfl rfl (fun w hL => hwy w) hfl hmx ?hp (fun gv kv capv curv hAv => ?_); (case hp => exact rfl); obtain rfl := hAv.cnt))
      | (refine y_k 2 rfl ?_; first | (refine y_val rfl rfl rfl (r_pick1 rfl rfl zTr rfl) ?hp ?_; (case hp => exact rfl)) | (refine y_val rfl rfl rfl (r_pick0 rfl rfl zTr rfl) ?hp ?_; (case hp => exact rfl)))
      | (refine y_k 25 rfl ?_; first | (refine y_val rfl rfl rfl (r_ixS tb rfl hSA rfl rfl rfl (by simp) hka) ?hp ?_; (case hp => exact rfl)) | (refine y_val rfl rfl rfl (r_ixS tb rfl hSB rfl rfl rfl (by simp) hkb) ?hp ?_; (case hp => exact rfl)) | (refine y_val rfl rfl rfl (r_ixN tb rfl rfl rfl rfl (by omega)) ?hp ?_; (case hp => exact rfl)) | (refine y_val rfl rfl rfl (r_ixA tb rfl rfl rfl rfl (by omega) (by omega)) ?hp ?_; (case hp => exact rfl)) | (refine y_val rfl rfl rfl (r_ixO tb rfl rfl rfl rfl (by omega)) ?hp ?_; (case hp => exact rfl)))
      | (refine y_k 36 rfl ?_; (refine y_val rfl rfl rfl (r_len tb rfl rfl rfl) ?hp ?_; (case hp => exact rfl)))
      | (refine y_k 12 rfl ?_; (refine y_val rfl rfl rfl (r_nil rfl rfl) ?hp ?_; (case hp => exact rfl)))
      | refine y_nil0 ?_
      | refine y_nil ?_
      | (refine' y_k 0 rfl ?_; (refine' y_move rfl rfl rfl rfl rfl ?hp ?_; (case hp => exact rfl)))
      | (refine' y_k 1 rfl ?_; (refine' y_assign rfl rfl rfl rfl rfl ?hp ?_; (case hp => exact rfl)))
      | (refine' y_k 34 rfl ?_; (refine' y_extract rfl rfl rfl rfl rfl rfl ?hp ?_; (case hp => exact rfl))))
                | (refine' c_drawY (id := 8) [(Sum.inl _ : CalmB.Plan), (Sum.inl _ : CalmB.Plan), (Sum.inl _ : CalmB.Plan), (Sum.inl _ : CalmB.Plan), (Sum.inl _ : CalmB.Plan), (Sum.inl _ : CalmB.Plan), (Sum.inl _ : CalmB.Plan), (Sum.inl _ : CalmB.Plan), (Sum.inl _ : CalmB.Plan), (Sum.inl _ : CalmB.Plan), (Sum.inl _ : CalmB.Plan), (Sum.inr _ : CalmB.Plan), (Sum.inl _ : CalmB.Plan), (Sum.inl _ : CalmB.Plan), (Sum.inl _ : CalmB.Plan), (Sum.inl _ : CalmB.Plan), (Sum.inl _ : CalmB.Plan)] (by kernel_rfl) (by kernel_rfl) ?_)
                | (refine e_drop0 (e_round (j + 1, g1, cap1, cur1) (by simp; omega) ⟨by simp; omega, by simp only; rw [hs1]; exact hR⟩ ?_ rfl); (repeat' (first | exact sub_nil | refine sub_cons rfl ?_ | refine sub_cons' rfl (by simp [hs1]) ?_))))
            · rw [ha, if_pos rfl] at hs1
              repeat' (first
                | (refine s_g ?_; first
      | (refine s_gd rfl ?_; first | refine s_gd1 rfl rfl zTr ?_ | refine s_gd0 rfl rfl rfl zTr ?_ | refine s_gd00 rfl rfl zTr ?_ | refine s_gdu rfl rfl rfl ?_ | refine s_gp1 rfl rfl rfl (fun hc => ?_) (fun hc => ?_) | refine s_gp0 rfl rfl rfl (fun hc => ?_) (fun hc => ?_) | refine s_gnp1 rfl rfl rfl (fun hc => ?_) (fun hc => ?_) | refine s_gnp0 rfl rfl rfl (fun hc => ?_) (fun hc => ?_) | refine s_gb1 rfl rfl rfl (fun hc => ?_) (fun hc => ?_) | refine s_gb0 rfl rfl rfl (fun hc => ?_) (fun hc => ?_) | refine s_gnb1 rfl rfl rfl (fun hc => ?_) (fun hc => ?_) | refine s_gnb0 rfl rfl rfl (fun hc => ?_) (fun hc => ?_))
      | (refine s_k 0 rfl ?_; refine s_val rfl rfl rfl (r_move rfl rfl) ?_)
      | (refine s_k 8 rfl ?_; first | refine s_val rfl rfl rfl (r_ldo rfl rfl hg (by simp) (ldvW tb rfl hsz)) ?_ | refine s_val rfl rfl rfl (r_ldS tb rfl hSA rfl hxa rfl) ?_ | refine s_val rfl rfl rfl (r_ldS tb rfl hSB rfl hyb rfl) ?_ | (refine' s_val rfl rfl rfl (r_ldv rfl rfl ?qm ?qv) ?_; (case qm => (exact zMm)); (case qv => (exact zLe))) | (refine' s_val rfl rfl rfl (r_ldo rfl rfl ?qw (by simp) ?qv) ?_; (case qw => assumption); (case qv => (exact zLe))))
      | (refine s_k 1 rfl ?_; refine s_val rfl rfl rfl (r_assign rfl rfl) ?_)
      | (refine s_k 13 rfl ?_; first | refine s_val rfl rfl rfl (r_lss rfl rfl rfl) ?_ | refine s_val rfl rfl rfl (r_eql rfl rfl rfl) ?_ | refine s_val rfl rfl rfl (r_neq rfl rfl rfl) ?_ | refine s_val rfl rfl rfl (r_add rfl rfl rfl (wrap_in (by simp only [lo, hi]; omega))) ?_ | refine s_val rfl rfl rfl (r_gtr rfl rfl rfl) ?_)
      | (refine s_k 35 rfl ?_; (refine s_call Try.func73 (by kernel_rfl) rfl rfl rfl rfl rfl rfl (fun w hL => hah _ _ _ _ w (hAv.slA (lenSp V) (hL.at_ m0)) (hR.slA (lenSp R) (hL.at_ m1))) ?_))
      | (refine s_k 2 rfl ?_; first | refine s_val rfl rfl rfl (r_pick1 rfl rfl zTr rfl) ?_ | refine s_val rfl rfl rfl (r_pick0 rfl rfl zTr rfl) ?_)
      | (refine s_k 25 rfl ?_; first | refine s_val rfl rfl rfl (r_ixS tb rfl hSA rfl rfl rfl (by simp) hka) ?_ | refine s_val rfl rfl rfl (r_ixS tb rfl hSB rfl rfl rfl (by simp) hkb) ?_ | refine s_val rfl rfl rfl (r_ixN tb rfl rfl rfl rfl (by omega)) ?_ | refine s_val rfl rfl rfl (r_ixA tb rfl rfl rfl rfl (by omega) (by omega)) ?_ | refine s_val rfl rfl rfl (r_ixO tb rfl rfl rfl rfl (by omega)) ?_)
      | (refine s_k 36 rfl ?_; refine s_val rfl rfl rfl (r_len tb rfl rfl rfl) ?_)
      | (refine s_k 34 rfl ?_; refine s_val rfl rfl rfl (r_extractL rfl rfl rfl) ?_)
      | (refine s_k 12 rfl ?_; refine s_val rfl rfl rfl (r_nil rfl rfl) ?_)
      | refine s_nil ?_)
                | (refine c_g ?_; first | refine c_seq ?_ | refine c_region ?_ | (refine c_gc ?_; first | refine c_cond1 rfl zTr ?_ | refine c_cond0 rfl zTr ?_ | refine z_condd1 rfl ?_ | refine z_condd0 rfl ?_ | refine z_conddn1 rfl ?_ | refine z_conddn0 rfl ?_ | refine c_condd rfl (fun hc => ?_) (fun hc => ?_) | refine c_conddn rfl (fun hc => ?_) (fun hc => ?_) | refine c_condn rfl (fun hc => ?_) (fun hc => ?_) | refine c_cond rfl (fun hc => ?_) (fun hc => ?_)) | refine c_block ?_ | refine c_skip ?_ | refine c_exit ?_ | refine c_ret ?_)
                | (refine e_g ?_; first | refine e_then ?_ | refine e_blkn ?_ | refine e_thenx ?_ | refine e_thenr ?_ | refine e_blkr ?_ | refine e_blkx ?_ | refine e_blky rfl ?_)
                | (refine y_g ?_; first
      | (refine y_gd rfl ?_; first | refine y_gd1 rfl rfl zTr ?_ | (refine y_gd0 rfl rfl rfl zTr ?hp ?_; (case hp => exact rfl)))
      | (refine y_k 8 rfl ?_; first | (refine y_val rfl rfl rfl (r_ldo rfl rfl hg (by simp) (ldvW tb rfl hsz)) ?hp ?_; (case hp => exact rfl)) | (refine y_val rfl rfl rfl (r_ldS tb rfl hSA rfl hxa rfl) ?hp ?_; (case hp => exact rfl)) | (refine y_val rfl rfl rfl (r_ldS tb rfl hSB rfl hyb rfl) ?hp ?_; (case hp => exact rfl)) | (refine' y_val rfl rfl rfl (r_ldv rfl rfl ?qm ?qv) ?hp ?_; (case qm => (exact zMm)); (case qv => (exact zLe)); (case hp => exact rfl)) | (refine' y_val rfl rfl rfl (r_ldo rfl rfl ?qw (by simp) ?qv) ?hp ?_; (case qw => assumption); (case qv => (exact zLe)); (case hp => exact rfl)))
      | (refine y_k 13 rfl ?_; first | (refine y_val rfl rfl rfl (r_lss rfl rfl rfl) ?hp ?_; (case hp => exact rfl)) | (refine y_val rfl rfl rfl (r_eql rfl rfl rfl) ?hp ?_; (case hp => exact rfl)) | (refine y_val rfl rfl rfl (r_neq rfl rfl rfl) ?hp ?_; (case hp => exact rfl)) | (refine y_val rfl rfl rfl (r_add rfl rfl rfl (wrap_in (by simp only [lo, hi]; omega))) ?hp ?_; (case hp => exact rfl)) | (refine y_val rfl rfl rfl (r_gtr rfl rfl rfl) ?hp ?_; (case hp => exact rfl)))
      | (refine y_k 35 rfl ?_; first | (refine y_call Try.func73 (by kernel_rfl) rfl rfl rfl rfl rfl rfl (fun w hL => hah _ _ _ _ w (hAv.slA (lenSp V) (hL.at_ m0)) (hR.slA (lenSp R) (hL.at_ m1))) ?hp ?_; (case hp => exact rfl)) | (refine' y_callN2 Try.func72 (by kernel_rfl) rfl rfl rfl rfl rfl rfl (fun w hL => hwy w) hfl hmx ?hp (fun gv kv capv curv hAv => ?_); (case hp => exact rfl); obtain rfl := hAv.cnt))
      | (refine y_k 2 rfl ?_; first | (refine y_val rfl rfl rfl (r_pick1 rfl rfl zTr rfl) ?hp ?_; (case hp => exact rfl)) | (refine y_val rfl rfl rfl (r_pick0 rfl rfl zTr rfl) ?hp ?_; (case hp => exact rfl)))
      | (refine y_k 25 rfl ?_; first | (refine y_val rfl rfl rfl (r_ixS tb rfl hSA rfl rfl rfl (by simp) hka) ?hp ?_; (case hp => exact rfl)) | (refine y_val rfl rfl rfl (r_ixS tb rfl hSB rfl rfl rfl (by simp) hkb) ?hp ?_; (case hp => exact rfl)) | (refine y_val rfl rfl rfl (r_ixN tb rfl rfl rfl rfl (by omega)) ?hp ?_; (case hp => exact rfl)) | (refine y_val rfl rfl rfl (r_ixA tb rfl rfl rfl rfl (by omega) (by omega)) ?hp ?_; (case hp => exact rfl)) | (refine y_val rfl rfl rfl (r_ixO tb rfl rfl rfl rfl (by omega)) ?hp ?_; (case hp => exact rfl)))
      | (refine y_k 36 rfl ?_; (refine y_val rfl rfl rfl (r_len tb rfl rfl rfl) ?hp ?_; (case hp => exact rfl)))
      | (refine y_k 12 rfl ?_; (refine y_val rfl rfl rfl (r_nil rfl rfl) ?hp ?_; (case hp => exact rfl)))
      | refine y_nil0 ?_
      | refine y_nil ?_
      | (refine' y_k 0 rfl ?_; (refine' y_move rfl rfl rfl rfl rfl ?hp ?_; (case hp => exact rfl)))
      | (refine' y_k 1 rfl ?_; (refine' y_assign rfl rfl rfl rfl rfl ?hp ?_; (case hp => exact rfl)))
      | (refine' y_k 34 rfl ?_; (refine' y_extract rfl rfl rfl rfl rfl rfl ?hp ?_; (case hp => exact rfl))))
                | (refine' c_drawY (id := 8) [(Sum.inl _ : CalmB.Plan), (Sum.inl _ : CalmB.Plan), (Sum.inl _ : CalmB.Plan), (Sum.inl _ : CalmB.Plan), (Sum.inl _ : CalmB.Plan), (Sum.inl _ : CalmB.Plan), (Sum.inl _ : CalmB.Plan), (Sum.inl _ : CalmB.Plan), (Sum.inl _ : CalmB.Plan), (Sum.inl _ : CalmB.Plan), (Sum.inl _ : CalmB.Plan), (Sum.inr _ : CalmB.Plan), (Sum.inl _ : CalmB.Plan), (Sum.inl _ : CalmB.Plan), (Sum.inl _ : CalmB.Plan), (Sum.inl _ : CalmB.Plan), (Sum.inl _ : CalmB.Plan)] (by kernel_rfl) (by kernel_rfl) ?_)
                | (refine e_rot1 (e_drop0 (e_round (j + 1, gv, capv, curv) (by simp; omega) ⟨by simp; omega, by simp only; rw [hs1]; exact hAv⟩ ?_ rfl)); (repeat' (first | exact sub_nil | refine sub_cons rfl ?_ | refine sub_cons' rfl (by simp [hs1]) ?_))))
          · rw [betS_short hV0 hlen] at hs1
            repeat' (first
              | (refine s_g ?_; first
      | (refine s_gd rfl ?_; first | refine s_gd1 rfl rfl zTr ?_ | refine s_gd0 rfl rfl rfl zTr ?_ | refine s_gd00 rfl rfl zTr ?_ | refine s_gdu rfl rfl rfl ?_ | refine s_gp1 rfl rfl rfl (fun hc => ?_) (fun hc => ?_) | refine s_gp0 rfl rfl rfl (fun hc => ?_) (fun hc => ?_) | refine s_gnp1 rfl rfl rfl (fun hc => ?_) (fun hc => ?_) | refine s_gnp0 rfl rfl rfl (fun hc => ?_) (fun hc => ?_) | refine s_gb1 rfl rfl rfl (fun hc => ?_) (fun hc => ?_) | refine s_gb0 rfl rfl rfl (fun hc => ?_) (fun hc => ?_) | refine s_gnb1 rfl rfl rfl (fun hc => ?_) (fun hc => ?_) | refine s_gnb0 rfl rfl rfl (fun hc => ?_) (fun hc => ?_))
      | (refine s_k 0 rfl ?_; refine s_val rfl rfl rfl (r_move rfl rfl) ?_)
      | (refine s_k 8 rfl ?_; first | refine s_val rfl rfl rfl (r_ldo rfl rfl hg (by simp) (ldvW tb rfl hsz)) ?_ | refine s_val rfl rfl rfl (r_ldS tb rfl hSA rfl hxa rfl) ?_ | refine s_val rfl rfl rfl (r_ldS tb rfl hSB rfl hyb rfl) ?_ | (refine' s_val rfl rfl rfl (r_ldv rfl rfl ?qm ?qv) ?_; (case qm => (exact zMm)); (case qv => (exact zLe))) | (refine' s_val rfl rfl rfl (r_ldo rfl rfl ?qw (by simp) ?qv) ?_; (case qw => assumption); (case qv => (exact zLe))))
      | (refine s_k 1 rfl ?_; refine s_val rfl rfl rfl (r_assign rfl rfl) ?_)
      | (refine s_k 13 rfl ?_; first | refine s_val rfl rfl rfl (r_lss rfl rfl rfl) ?_ | refine s_val rfl rfl rfl (r_eql rfl rfl rfl) ?_ | refine s_val rfl rfl rfl (r_neq rfl rfl rfl) ?_ | refine s_val rfl rfl rfl (r_add rfl rfl rfl (wrap_in (by simp only [lo, hi]; omega))) ?_ | refine s_val rfl rfl rfl (r_gtr rfl rfl rfl) ?_)
      | (refine s_k 2 rfl ?_; first | refine s_val rfl rfl rfl (r_pick1 rfl rfl zTr rfl) ?_ | refine s_val rfl rfl rfl (r_pick0 rfl rfl zTr rfl) ?_)
      | (refine s_k 25 rfl ?_; first | refine s_val rfl rfl rfl (r_ixS tb rfl hSA rfl rfl rfl (by simp) hka) ?_ | refine s_val rfl rfl rfl (r_ixS tb rfl hSB rfl rfl rfl (by simp) hkb) ?_ | refine s_val rfl rfl rfl (r_ixN tb rfl rfl rfl rfl (by omega)) ?_ | refine s_val rfl rfl rfl (r_ixA tb rfl rfl rfl rfl (by omega) (by omega)) ?_ | refine s_val rfl rfl rfl (r_ixO tb rfl rfl rfl rfl (by omega)) ?_)
      | (refine s_k 36 rfl ?_; refine s_val rfl rfl rfl (r_len tb rfl rfl rfl) ?_)
      | (refine s_k 34 rfl ?_; refine s_val rfl rfl rfl (r_extractL rfl rfl rfl) ?_)
      | (refine s_k 12 rfl ?_; refine s_val rfl rfl rfl (r_nil rfl rfl) ?_)
      | refine s_nil ?_)
              | (refine c_g ?_; first | refine c_seq ?_ | refine c_region ?_ | (refine c_gc ?_; first | refine c_cond1 rfl zTr ?_ | refine c_cond0 rfl zTr ?_ | refine z_condd1 rfl ?_ | refine z_condd0 rfl ?_ | refine z_conddn1 rfl ?_ | refine z_conddn0 rfl ?_ | refine c_condd rfl (fun hc => ?_) (fun hc => ?_) | refine c_conddn rfl (fun hc => ?_) (fun hc => ?_) | refine c_condn rfl (fun hc => ?_) (fun hc => ?_) | refine c_cond rfl (fun hc => ?_) (fun hc => ?_)) | refine c_block ?_ | refine c_skip ?_ | refine c_exit ?_ | refine c_ret ?_)
              | (refine e_g ?_; first | refine e_then ?_ | refine e_blkn ?_ | refine e_thenx ?_ | refine e_thenr ?_ | refine e_blkr ?_ | refine e_blkx ?_ | refine e_blky rfl ?_)
              | (refine y_g ?_; first
      | (refine y_gd rfl ?_; first | refine y_gd1 rfl rfl zTr ?_ | (refine y_gd0 rfl rfl rfl zTr ?hp ?_; (case hp => exact rfl)))
      | (refine y_k 8 rfl ?_; first | (refine y_val rfl rfl rfl (r_ldo rfl rfl hg (by simp) (ldvW tb rfl hsz)) ?hp ?_; (case hp => exact rfl)) | (refine y_val rfl rfl rfl (r_ldS tb rfl hSA rfl hxa rfl) ?hp ?_; (case hp => exact rfl)) | (refine y_val rfl rfl rfl (r_ldS tb rfl hSB rfl hyb rfl) ?hp ?_; (case hp => exact rfl)) | (refine' y_val rfl rfl rfl (r_ldv rfl rfl ?qm ?qv) ?hp ?_; (case qm => (exact zMm)); (case qv => (exact zLe)); (case hp => exact rfl)) | (refine' y_val rfl rfl rfl (r_ldo rfl rfl ?qw (by simp) ?qv) ?hp ?_; (case qw => assumption); (case qv => (exact zLe)); (case hp => exact rfl)))
      | (refine y_k 13 rfl ?_; first | (refine y_val rfl rfl rfl (r_lss rfl rfl rfl) ?hp ?_; (case hp => exact rfl)) | (refine y_val rfl rfl rfl (r_eql rfl rfl rfl) ?hp ?_; (case hp => exact rfl)) | (refine y_val rfl rfl rfl (r_neq rfl rfl rfl) ?hp ?_; (case hp => exact rfl)) | (refine y_val rfl rfl rfl (r_add rfl rfl rfl (wrap_in (by simp only [lo, hi]; omega))) ?hp ?_; (case hp => exact rfl)) | (refine y_val rfl rfl rfl (r_gtr rfl rfl rfl) ?hp ?_; (case hp => exact rfl)))
      | (refine y_k 35 rfl ?_; (refine' y_callN2 Try.func72 (by kernel_rfl) rfl rfl rfl rfl rfl rfl (fun w hL => hwy w) hfl hmx ?hp (fun gv kv capv curv hAv => ?_); (case hp => exact rfl); obtain rfl := hAv.cnt))
      | (refine y_k 2 rfl ?_; first | (refine y_val rfl rfl rfl (r_pick1 rfl rfl zTr rfl) ?hp ?_; (case hp => exact rfl)) | (refine y_val rfl rfl rfl (r_pick0 rfl rfl zTr rfl) ?hp ?_; (case hp => exact rfl)))
      | (refine y_k 25 rfl ?_; first | (refine y_val rfl rfl rfl (r_ixS tb rfl hSA rfl rfl rfl (by simp) hka) ?hp ?_; (case hp => exact rfl)) | (refine y_val rfl rfl rfl (r_ixS tb rfl hSB rfl rfl rfl (by simp) hkb) ?hp ?_; (case hp => exact rfl)) | (refine y_val rfl rfl rfl (r_ixN tb rfl rfl rfl rfl (by omega)) ?hp ?_; (case hp => exact rfl)) | (refine y_val rfl rfl rfl (r_ixA tb rfl rfl rfl rfl (by omega) (by omega)) ?hp ?_; (case hp => exact rfl)) | (refine y_val rfl rfl rfl (r_ixO tb rfl rfl rfl rfl (by omega)) ?hp ?_; (case hp => exact rfl)))
      | (refine y_k 36 rfl ?_; (refine y_val rfl rfl rfl (r_len tb rfl rfl rfl) ?hp ?_; (case hp => exact rfl)))
      | (refine y_k 12 rfl ?_; (refine y_val rfl rfl rfl (r_nil rfl rfl) ?hp ?_; (case hp => exact rfl)))
      | refine y_nil0 ?_
      | refine y_nil ?_
      | (refine' y_k 0 rfl ?_; (refine' y_move rfl rfl rfl rfl rfl ?hp ?_; (case hp => exact rfl)))
      | (refine' y_k 1 rfl ?_; (refine' y_assign rfl rfl rfl rfl rfl ?hp ?_; (case hp => exact rfl)))
      | (refine' y_k 34 rfl ?_; (refine' y_extract rfl rfl rfl rfl rfl rfl ?hp ?_; (case hp => exact rfl))))
              | (refine' c_drawY (id := 8) [(Sum.inl _ : CalmB.Plan), (Sum.inl _ : CalmB.Plan), (Sum.inl _ : CalmB.Plan), (Sum.inl _ : CalmB.Plan), (Sum.inl _ : CalmB.Plan), (Sum.inl _ : CalmB.Plan), (Sum.inl _ : CalmB.Plan), (Sum.inl _ : CalmB.Plan), (Sum.inl _ : CalmB.Plan), (Sum.inl _ : CalmB.Plan), (Sum.inl _ : CalmB.Plan), (Sum.inr _ : CalmB.Plan), (Sum.inl _ : CalmB.Plan), (Sum.inl _ : CalmB.Plan), (Sum.inl _ : CalmB.Plan), (Sum.inl _ : CalmB.Plan), (Sum.inl _ : CalmB.Plan)] (by kernel_rfl) (by kernel_rfl) ?_)
              | (refine e_rot1 (e_drop0 (e_round (j + 1, gv, capv, curv) (by simp; omega) ⟨by simp; omega, by simp only; rw [hs1]; exact hAv⟩ ?_ rfl)); (repeat' (first | exact sub_nil | refine sub_cons rfl ?_ | refine sub_cons' rfl (by simp [hs1]) ?_))))
    · obtain rfl : j = B.length := by omega
      rw [he] at hR ⊢
      repeat' (first
        | (refine s_g ?_; first
      | (refine s_gd rfl ?_; first | refine s_gd1 rfl rfl zTr ?_ | refine s_gd0 rfl rfl rfl zTr ?_ | refine s_gd00 rfl rfl zTr ?_ | refine s_gp1 rfl rfl rfl (fun hc => ?_) (fun hc => ?_) | refine s_gp0 rfl rfl rfl (fun hc => ?_) (fun hc => ?_) | refine s_gnp1 rfl rfl rfl (fun hc => ?_) (fun hc => ?_) | refine s_gnp0 rfl rfl rfl (fun hc => ?_) (fun hc => ?_) | refine s_gb1 rfl rfl rfl (fun hc => ?_) (fun hc => ?_) | refine s_gb0 rfl rfl rfl (fun hc => ?_) (fun hc => ?_) | refine s_gnb1 rfl rfl rfl (fun hc => ?_) (fun hc => ?_) | refine s_gnb0 rfl rfl rfl (fun hc => ?_) (fun hc => ?_))
      | (refine s_k 0 rfl ?_; refine s_val rfl rfl rfl (r_move rfl rfl) ?_)
      | (refine s_k 8 rfl ?_; first | (refine' s_val rfl rfl rfl (r_ldv rfl rfl ?qm ?qv) ?_; (case qm => (exact zMm)); (case qv => (exact zLe))) | (refine' s_val rfl rfl rfl (r_ldo rfl rfl ?qw (by simp) ?qv) ?_; (case qw => assumption); (case qv => (exact zLe))))
      | (refine s_k 1 rfl ?_; refine s_val rfl rfl rfl (r_assign rfl rfl) ?_)
      | (refine s_k 13 rfl ?_; first | refine s_val rfl rfl rfl (r_lss rfl rfl rfl) ?_ | refine s_val rfl rfl rfl (r_eql rfl rfl rfl) ?_ | refine s_val rfl rfl rfl (r_neq rfl rfl rfl) ?_ | refine s_val rfl rfl rfl (r_add rfl rfl rfl (wrap_in (by simp only [lo, hi]; omega))) ?_ | refine s_val rfl rfl rfl (r_gtr rfl rfl rfl) ?_)
      | (refine s_k 2 rfl ?_; first | refine s_val rfl rfl rfl (r_pick1 rfl rfl zTr rfl) ?_ | refine s_val rfl rfl rfl (r_pick0 rfl rfl zTr rfl) ?_)
      | (refine s_k 25 rfl ?_; first | refine s_val rfl rfl rfl (r_ixN tb rfl rfl rfl rfl (by omega)) ?_ | refine s_val rfl rfl rfl (r_ixA tb rfl rfl rfl rfl (by omega) (by omega)) ?_ | refine s_val rfl rfl rfl (r_ixO tb rfl rfl rfl rfl (by omega)) ?_)
      | (refine s_k 36 rfl ?_; refine s_val rfl rfl rfl (r_len tb rfl rfl rfl) ?_)
      | (refine s_k 34 rfl ?_; refine s_val rfl rfl rfl (r_extractL rfl rfl rfl) ?_)
      | (refine s_k 12 rfl ?_; refine s_val rfl rfl rfl (r_nil rfl rfl) ?_)
      | refine s_nil ?_)
        | (refine c_g ?_; first | refine c_seq ?_ | refine c_region ?_ | (refine c_gc ?_; first | refine c_cond1 rfl zTr ?_ | refine c_cond0 rfl zTr ?_ | refine z_condd1 rfl ?_ | refine z_condd0 rfl ?_ | refine z_conddn1 rfl ?_ | refine z_conddn0 rfl ?_ | refine c_condd rfl (fun hc => ?_) (fun hc => ?_) | refine c_conddn rfl (fun hc => ?_) (fun hc => ?_) | refine c_condn rfl (fun hc => ?_) (fun hc => ?_) | refine c_cond rfl (fun hc => ?_) (fun hc => ?_)) | refine c_block ?_ | refine c_skip ?_ | refine c_exit ?_ | refine c_ret ?_)
        | (refine e_g ?_; first | refine e_then ?_ | refine e_blkn ?_ | refine e_thenx ?_ | refine e_thenr ?_ | refine e_blkr ?_ | refine e_blkx ?_ | refine e_blky rfl ?_)
        | (refine e_round (i + 1, g1, cap1, cur1) (by simp; omega) ⟨by simp; omega, by simp only; exact hR⟩ ?_ rfl; (repeat' (first | exact sub_nil | refine sub_cons rfl ?_))))
  · obtain rfl : i = A.length := by omega
    rw [List.take_length] at hR ⊢
    repeat' (first
      | (refine s_g ?_; first
      | (refine s_gd rfl ?_; first | refine s_gd1 rfl rfl zTr ?_ | refine s_gd0 rfl rfl rfl zTr ?_ | refine s_gd00 rfl rfl zTr ?_ | refine s_gp1 rfl rfl rfl (fun hc => ?_) (fun hc => ?_) | refine s_gp0 rfl rfl rfl (fun hc => ?_) (fun hc => ?_) | refine s_gnp1 rfl rfl rfl (fun hc => ?_) (fun hc => ?_) | refine s_gnp0 rfl rfl rfl (fun hc => ?_) (fun hc => ?_) | refine s_gb1 rfl rfl rfl (fun hc => ?_) (fun hc => ?_) | refine s_gb0 rfl rfl rfl (fun hc => ?_) (fun hc => ?_) | refine s_gnb1 rfl rfl rfl (fun hc => ?_) (fun hc => ?_) | refine s_gnb0 rfl rfl rfl (fun hc => ?_) (fun hc => ?_))
      | (refine s_k 0 rfl ?_; refine s_val rfl rfl rfl (r_move rfl rfl) ?_)
      | (refine s_k 8 rfl ?_; first | (refine' s_val rfl rfl rfl (r_ldv rfl rfl ?qm ?qv) ?_; (case qm => (exact zMm)); (case qv => (exact zLe))) | (refine' s_val rfl rfl rfl (r_ldo rfl rfl ?qw (by simp) ?qv) ?_; (case qw => assumption); (case qv => (exact zLe))))
      | (refine s_k 1 rfl ?_; refine s_val rfl rfl rfl (r_assign rfl rfl) ?_)
      | (refine s_k 13 rfl ?_; first | refine s_val rfl rfl rfl (r_lss rfl rfl rfl) ?_ | refine s_val rfl rfl rfl (r_eql rfl rfl rfl) ?_ | refine s_val rfl rfl rfl (r_neq rfl rfl rfl) ?_ | refine s_val rfl rfl rfl (r_add rfl rfl rfl (wrap_in (by simp only [lo, hi]; omega))) ?_ | refine s_val rfl rfl rfl (r_gtr rfl rfl rfl) ?_)
      | (refine s_k 2 rfl ?_; first | refine s_val rfl rfl rfl (r_pick1 rfl rfl zTr rfl) ?_ | refine s_val rfl rfl rfl (r_pick0 rfl rfl zTr rfl) ?_)
      | (refine s_k 25 rfl ?_; first | refine s_val rfl rfl rfl (r_ixN tb rfl rfl rfl rfl (by omega)) ?_ | refine s_val rfl rfl rfl (r_ixA tb rfl rfl rfl rfl (by omega) (by omega)) ?_ | refine s_val rfl rfl rfl (r_ixO tb rfl rfl rfl rfl (by omega)) ?_)
      | (refine s_k 36 rfl ?_; refine s_val rfl rfl rfl (r_len tb rfl rfl rfl) ?_)
      | (refine s_k 34 rfl ?_; refine s_val rfl rfl rfl (r_extractL rfl rfl rfl) ?_)
      | (refine s_k 12 rfl ?_; refine s_val rfl rfl rfl (r_nil rfl rfl) ?_)
      | refine s_nil ?_)
      | (refine c_g ?_; first | refine c_seq ?_ | refine c_region ?_ | (refine c_gc ?_; first | refine c_cond1 rfl zTr ?_ | refine c_cond0 rfl zTr ?_ | refine z_condd1 rfl ?_ | refine z_condd0 rfl ?_ | refine z_conddn1 rfl ?_ | refine z_conddn0 rfl ?_ | refine c_condd rfl (fun hc => ?_) (fun hc => ?_) | refine c_conddn rfl (fun hc => ?_) (fun hc => ?_) | refine c_condn rfl (fun hc => ?_) (fun hc => ?_) | refine c_cond rfl (fun hc => ?_) (fun hc => ?_)) | refine c_block ?_ | refine c_skip ?_ | refine c_exit ?_ | refine c_ret ?_)
      | (refine e_g ?_; first | refine e_then ?_ | refine e_blkn ?_ | refine e_thenx ?_ | refine e_thenr ?_ | refine e_blkr ?_ | refine e_blkx ?_ | refine e_blky rfl ?_)
      | (refine e_ret1 (by simp) rfl (re_tmp rfl) fun w hL => NewS.of hR hL m0))
end Go.Proofs.Ytnafnhpajkhgkaa
