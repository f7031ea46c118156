import Derived.Test.YtnafnhpajkhgkaaQW33
import Derived.Test.YtnafnhpajkhgkaaQW34
import Derived.Test.YtnafnhpajkhgkaaQW38
import Derived.Test.YtnafnhpajkhgkaaQW39
/- Marks in lists of lists of cells. No condition but a whole length of at most 2^20. -/
namespace Go.Proofs.Ytnafnhpajkhgkaa
set_option linter.unusedVariables false
set_option linter.unusedSimpArgs false
open Go.RowKit Mem Wk

/-! ## several blocks at once -/
/-- the blocks of some lists, in their order -/
def itF (items : List (Nat × Nat × Array Value)) : List (Nat × TypeId × Array Value) := items.map fun i => (i.1, 52, i.2.2)
theorem itF_perm (items : List (Nat × Nat × Array Value)) : (itF items).Perm (itR items) := by
  unfold itF itR; rw [List.map_reverse]; exact (List.reverse_perm _).symm
theorem itF_fst (items : List (Nat × Nat × Array Value)) : (itF items).map (·.1) = items.map (·.1) := by unfold itF; rw [List.map_map]; rfl
theorem Own.startL (w : World) {L : List (Nat × TypeId × Array Value)} (h : ∀ x ∈ L, w.heap[x.1]? = some (.cells x.2.2 x.2.1 (0, 0))) (hn : (L.map (·.1)).Nodup) : Own w.heap.size (L.map (·.1)) w w L :=
  ⟨rfl, rfl, rfl, Nat.le_refl _, Nat.le_refl _, fun _ _ _ => rfl, fun x hx => .inr (List.mem_map.2 ⟨x, hx, rfl⟩), h, hn⟩
/-- what a callee has done that writes some blocks alone -/
structure UpdL (w w' : World) (L' : List (Nat × TypeId × Array Value)) : Prop where
  os : w'.os = w.os
  tape : w'.tape = w.tape
  output : w'.output = w.output
  size : w.heap.size ≤ w'.heap.size
  keep : ∀ j, j < w.heap.size → (∀ x ∈ L', x.1 ≠ j) → w'.heap[j]? = w.heap[j]?
  has : ∀ x ∈ L', w'.heap[x.1]? = some (.cells x.2.2 x.2.1 (0, 0))
theorem UpdL.of {w0 w : World} {L L' : List (Nat × TypeId × Array Value)} (h : Kn (L'.map (·.1)) w0 w L) (hs : ∀ x ∈ L', x ∈ L) (hl : ∀ x ∈ L, x.1 < w0.heap.size → x ∈ L') : UpdL w0 w L' :=
  ⟨h.os, h.tape, h.output, h.size, fun j hj hx => h.keep j hj fun x hxL e => by
    have := hl x hxL (by rw [e]; exact hj)
    exact hx x this e, fun x hx => h.has x (hs x hx)⟩
theorem Kn.updL {O : List Nat} {w0 w w' : World} {X N N' : List (Nat × TypeId × Array Value)} (h : Kn O w0 w (N ++ X)) (hu : UpdL w w' N') (ha : N'.map (·.1) = N.map (·.1)) : Kn O w0 w' (N' ++ X) := by
  have hmap : (N' ++ X).map (·.1) = (N ++ X).map (·.1) := by rw [List.map_append, List.map_append, ha]
  have hmem : ∀ x ∈ N', ∃ y ∈ N, y.1 = x.1 := fun x hx => by
    have : x.1 ∈ N.map (·.1) := by rw [← ha]; exact List.mem_map.2 ⟨x, hx, rfl⟩
    exact List.mem_map.1 this
  have hmem' : ∀ x ∈ N, ∃ y ∈ N', y.1 = x.1 := fun x hx => by
    have : x.1 ∈ N'.map (·.1) := by rw [ha]; exact List.mem_map.2 ⟨x, hx, rfl⟩
    exact List.mem_map.1 this
  have hnd := h.nodup
  rw [List.map_append, List.nodup_append] at hnd
  refine ⟨hu.os.trans h.os, hu.tape.trans h.tape, hu.output.trans h.output, Nat.le_trans h.size hu.size, h.base, fun k hk hx => ?_, fun x hx => ?_, fun x hx => ?_, by rw [hmap]; exact h.nodup⟩
  · rw [hu.keep k (Nat.lt_of_lt_of_le hk h.size) fun x hxN => hx x (List.mem_append_left _ hxN)]
    refine h.keep k hk fun x hxL => ?_
    rcases List.mem_append.1 hxL with h1 | h1
    · obtain ⟨y, hy, e⟩ := hmem' x h1
      rw [← e]; exact hx y (List.mem_append_left _ hy)
    · exact hx x (List.mem_append_right _ h1)
  · rcases List.mem_append.1 hx with h1 | h1
    · obtain ⟨y, hy, e⟩ := hmem x h1
      rw [← e]; exact h.low y (List.mem_append_left _ hy)
    · exact h.low x (List.mem_append_right _ h1)
  · rcases List.mem_append.1 hx with h1 | h1
    · exact hu.has x h1
    · have hxh := h.has x (List.mem_append_right _ h1)
      have hlt := (Array.getElem?_eq_some_iff.1 hxh).1
      rw [hu.keep x.1 hlt fun y hy e => ?_]
      · exact hxh
      · obtain ⟨z, hz, e2⟩ := hmem y hy
        exact hnd.2.2 z.1 (List.mem_map.2 ⟨z, hz, rfl⟩) x.1 (List.mem_map.2 ⟨x, h1, rfl⟩) (by rw [e2, e])
attribute [local irreducible] Calls Wk.S Wk.C Wk.E Wk.X Wk.T Wk.Y Wk.anV Wk.orV Wk.andV Wk.shlV Wk.shrV Calm.wpLex CalmB.wpLex bfsN
/-! ## marks from a number on -/
def mk8k (k0 : Nat) (j : Nat) : Value := .int .i8 (IntKind.i8.wrap ((k0 : Int) + (j : Int)))
set_option maxRecDepth 100000 in
theorem markSpotS_k (k0 n cap g : Nat) (cur : Array Value) (w : World) (hs : n * 2 ≤ cur.size) (hg : w.heap[g]? = some (.cells cur 52 (0, 0))) (hn : n ≤ 1048576) (hk0 : k0 ≤ 100000000) :
    Calls Try.prog 16 #[.slice (some ⟨g, 0, none⟩) n cap, .int .i64 (k0 : Int)] w fun e w' => e = .returned (.int .i64 ((k0 : Int) + ((n * 2 : Nat) : Int))) ∧ ∃ cs', (cs'.size = cur.size ∧ Mkd (mk8k k0) cs' (n * 2)) ∧ Upd w w' g 52 cs' := by
  refine enter2 Try.func16 rfl rfl rfl (Own.startAt w hg) ?_
  repeat' (first
    | (refine s_g ?_; first
      | (refine s_k 0 rfl ?_; refine s_val rfl rfl rfl (r_move rfl rfl) ?_)
      | (refine s_k 23 rfl ?_; first | refine s_val rfl rfl rfl (r_field tb rfl rfl rfl) ?_ | refine s_val rfl rfl rfl (r_fieldS tb rfl rfl rfl) ?_)
      | (refine s_k 1 rfl ?_; refine s_val rfl rfl rfl (r_assign rfl rfl) ?_)
      | (refine s_k 13 rfl ?_; first | refine s_val rfl rfl rfl (r_lss rfl rfl rfl) ?_ | refine s_val rfl rfl rfl (r_add rfl rfl rfl (wrap_in (by simp only [lo, hi]; omega))) ?_)
      | (refine s_k 15 rfl ?_; refine s_val rfl rfl rfl (r_conv tb rfl rfl rfl rfl (wrap_in (by simp only [lo, hi]; omega))) ?_)
      | (refine s_k 25 rfl ?_; first | refine s_val rfl rfl rfl (r_ixN tb rfl rfl rfl rfl (by omega)) ?_ | refine s_val rfl rfl rfl (r_ixA tb rfl rfl rfl rfl (by omega) (by omega)) ?_ | refine s_val rfl rfl rfl (r_ixO tb rfl rfl rfl rfl (by omega)) ?_)
      | (refine s_k 9 rfl ?_; (first | refine s_st1 tb rfl rfl rfl rfl rfl rfl rfl rfl ?_ | refine s_stA tb rfl rfl rfl rfl (by first | rfl | assumption | (apply Pv.size; assumption)) rfl rfl ?_); (first | refine' st0 ?qs ?_ | refine' st1 ?qs ?_ | refine' st2 ?qs ?_ | refine' st3 ?qs ?_ | refine' st4 ?qs ?_ | refine' st5 ?qs ?_ | refine' st6 ?qs ?_ | refine' st7 ?qs ?_ | refine' st8 ?qs ?_ | refine' st9 ?qs ?_ | refine' st10 ?qs ?_ | refine' st11 ?qs ?_); (case qs => (first | exact zSet)))
      | (refine s_k 36 rfl ?_; refine s_val rfl rfl rfl (r_len tb rfl rfl rfl) ?_)
      | refine s_nil ?_)
    | (refine c_g ?_; first | refine c_seq ?_ | refine c_region ?_ | (refine c_gc ?_; first | refine c_cond1 rfl zTr ?_ | refine c_cond0 rfl zTr ?_ | refine z_condd1 rfl ?_ | refine z_condd0 rfl ?_ | refine z_conddn1 rfl ?_ | refine z_conddn0 rfl ?_ | refine c_condd rfl (fun hc => ?_) (fun hc => ?_) | refine c_conddn rfl (fun hc => ?_) (fun hc => ?_) | refine c_condn rfl (fun hc => ?_) (fun hc => ?_) | refine c_cond rfl (fun hc => ?_) (fun hc => ?_)) | refine c_block ?_ | refine c_skip ?_ | refine c_exit ?_ | refine c_ret ?_)
    | (refine e_g ?_; first | refine e_then ?_ | refine e_blkn ?_ | refine e_thenx ?_ | refine e_thenr ?_ | refine e_blkr ?_ | refine e_blkx ?_ | refine e_blky rfl ?_))
  refine c_loop (ι := Nat × Array Value) (fun i => n - i.1) (fun i => i.1 ≤ n ∧ i.2.size = cur.size ∧ Mkd (mk8k k0) i.2 (i.1 * 2)) (fun i => [(5, .int .i64 (i.1 : Int)), (1, .int .i64 ((k0 : Int) + ((i.1 * 2 : Nat) : Int))), (0, .slice (some ⟨g, 0, none⟩) n cap)]) (fun i => [(g, 52, i.2)]) (0, cur) ⟨by simp, rfl, fun j hj => by simp at hj⟩ ?hs rfl ?_
  case hs => (repeat' (first | exact sub_nil | refine sub_cons rfl ?_ | refine sub_cons' rfl (by simp) ?_))
  rintro ⟨k, c⟩ ⟨hk, hsz, hM⟩
  simp only at hk hsz hM ⊢
  have hv2 : Value.int .i8 (IntKind.i8.wrap ((k0 : Int) + ((k * 2 : Nat) : Int) + 1)) = mk8k k0 (k * 2 + 1) := by unfold mk8k; rw [show (k0 : Int) + ((k * 2 : Nat) : Int) + 1 = (k0 : Int) + ((k * 2 + 1 : Nat) : Int) by omega]
  by_cases hlt : k < n
  · repeat' (first
      | (refine s_g ?_; first
      | (refine s_k 0 rfl ?_; refine s_val rfl rfl rfl (r_move rfl rfl) ?_)
      | (refine s_k 23 rfl ?_; first | refine s_val rfl rfl rfl (r_field tb rfl rfl rfl) ?_ | refine s_val rfl rfl rfl (r_fieldS tb rfl rfl rfl) ?_)
      | (refine s_k 1 rfl ?_; refine s_val rfl rfl rfl (r_assign rfl rfl) ?_)
      | (refine s_k 13 rfl ?_; first | refine s_val rfl rfl rfl (r_lss rfl rfl rfl) ?_ | refine s_val rfl rfl rfl (r_add rfl rfl rfl (wrap_in (by simp only [lo, hi]; omega))) ?_ | refine s_val rfl rfl rfl (r_add rfl rfl rfl rfl) ?_ | refine s_val rfl rfl rfl (r_sub rfl rfl rfl rfl) ?_ | refine s_val rfl rfl rfl (r_mul rfl rfl rfl rfl) ?_)
      | (refine s_k 15 rfl ?_; first | refine s_val rfl rfl rfl (r_conv tb rfl rfl rfl rfl (wrap_in (by simp only [lo, hi]; omega))) ?_ | refine s_val rfl rfl rfl (r_conv tb rfl rfl rfl rfl rfl) ?_)
      | (refine s_k 25 rfl ?_; first | refine s_val rfl rfl rfl (r_ixO tb rfl rfl rfl rfl hlt) ?_ | refine s_val rfl rfl rfl (r_ixN tb rfl rfl rfl rfl (by omega)) ?_ | refine s_val rfl rfl rfl (r_ixA tb rfl rfl rfl rfl (by omega) (by omega)) ?_ | refine s_val rfl rfl rfl (r_ixO tb rfl rfl rfl rfl (by omega)) ?_)
      | (refine s_k 9 rfl ?_; (first | refine s_st1 tb rfl rfl rfl rfl rfl rfl rfl rfl ?_ | refine s_stA tb rfl rfl rfl rfl (by first | rfl | assumption | (apply Pv.size; assumption)) rfl rfl ?_); (first | refine' st0 ?qs ?_ | refine' st1 ?qs ?_ | refine' st2 ?qs ?_ | refine' st3 ?qs ?_ | refine' st4 ?qs ?_ | refine' st5 ?qs ?_ | refine' st6 ?qs ?_ | refine' st7 ?qs ?_ | refine' st8 ?qs ?_ | refine' st9 ?qs ?_ | refine' st10 ?qs ?_ | refine' st11 ?qs ?_); (case qs => (first | exact set_one (by omega) rfl | exact zSet)); (first | (refine absA0 (fun c => c.size = cur.size ∧ Mkd (mk8k k0) c (k * 2 + 1)) ⟨by simp [hsz], hM.put (by omega) (by omega) rfl⟩ fun c2 hM2 => ?_) | (refine absA0 (fun c => c.size = cur.size ∧ Mkd (mk8k k0) c (k * 2 + 1 + 1)) ⟨by simp [hM2.1], hM2.2.put (by omega) (by omega) hv2⟩ fun c3 hM3 => ?_) | skip))
      | (refine s_k 36 rfl ?_; refine s_val rfl rfl rfl (r_len tb rfl rfl rfl) ?_)
      | refine s_nil ?_)
      | (refine c_g ?_; first | refine c_seq ?_ | refine c_region ?_ | (refine c_gc ?_; first | refine c_cond1 rfl zTr ?_ | refine c_cond0 rfl zTr ?_ | refine z_condd1 rfl ?_ | refine z_condd0 rfl ?_ | refine z_conddn1 rfl ?_ | refine z_conddn0 rfl ?_ | refine c_condd rfl (fun hc => ?_) (fun hc => ?_) | refine c_conddn rfl (fun hc => ?_) (fun hc => ?_) | refine c_condn rfl (fun hc => ?_) (fun hc => ?_) | refine c_cond rfl (fun hc => ?_) (fun hc => ?_)) | refine c_block ?_ | refine c_skip ?_ | refine c_exit ?_ | refine c_ret ?_)
      | (refine e_g ?_; first | refine e_then ?_ | refine e_blkn ?_ | refine e_thenx ?_ | refine e_thenr ?_ | refine e_blkr ?_ | refine e_blkx ?_ | refine e_blky rfl ?_)
      | (refine e_round (k + 1, c3) (by simp; omega) ⟨by simp; omega, hM3.1, by rw [Nat.succ_mul]; exact hM3.2⟩ ?_ rfl; exact sub_cons rfl (sub_cons' rfl (by simp only; congr 1; omega) (sub_cons rfl sub_nil))))
  · have hkn : k = n := by omega
    subst hkn
    repeat' (first
      | (refine s_g ?_; first
      | (refine s_k 0 rfl ?_; refine s_val rfl rfl rfl (r_move rfl rfl) ?_)
      | (refine s_k 23 rfl ?_; first | refine s_val rfl rfl rfl (r_field tb rfl rfl rfl) ?_ | refine s_val rfl rfl rfl (r_fieldS tb rfl rfl rfl) ?_)
      | (refine s_k 1 rfl ?_; refine s_val rfl rfl rfl (r_assign rfl rfl) ?_)
      | (refine s_k 13 rfl ?_; first | refine s_val rfl rfl rfl (r_lss rfl rfl rfl) ?_ | refine s_val rfl rfl rfl (r_add rfl rfl rfl (wrap_in (by simp only [lo, hi]; omega))) ?_)
      | (refine s_k 15 rfl ?_; refine s_val rfl rfl rfl (r_conv tb rfl rfl rfl rfl (wrap_in (by simp only [lo, hi]; omega))) ?_)
      | (refine s_k 25 rfl ?_; first | refine s_val rfl rfl rfl (r_ixN tb rfl rfl rfl rfl (by omega)) ?_ | refine s_val rfl rfl rfl (r_ixA tb rfl rfl rfl rfl (by omega) (by omega)) ?_ | refine s_val rfl rfl rfl (r_ixO tb rfl rfl rfl rfl (by omega)) ?_)
      | (refine s_k 9 rfl ?_; (first | refine s_st1 tb rfl rfl rfl rfl rfl rfl rfl rfl ?_ | refine s_stA tb rfl rfl rfl rfl (by first | rfl | assumption | (apply Pv.size; assumption)) rfl rfl ?_); (first | refine' st0 ?qs ?_ | refine' st1 ?qs ?_ | refine' st2 ?qs ?_ | refine' st3 ?qs ?_ | refine' st4 ?qs ?_ | refine' st5 ?qs ?_ | refine' st6 ?qs ?_ | refine' st7 ?qs ?_ | refine' st8 ?qs ?_ | refine' st9 ?qs ?_ | refine' st10 ?qs ?_ | refine' st11 ?qs ?_); (case qs => (first | exact zSet)))
      | (refine s_k 36 rfl ?_; refine s_val rfl rfl rfl (r_len tb rfl rfl rfl) ?_)
      | refine s_nil ?_)
      | (refine c_g ?_; first | refine c_seq ?_ | refine c_region ?_ | (refine c_gc ?_; first | refine c_cond1 rfl zTr ?_ | refine c_cond0 rfl zTr ?_ | refine z_condd1 rfl ?_ | refine z_condd0 rfl ?_ | refine z_conddn1 rfl ?_ | refine z_conddn0 rfl ?_ | refine c_condd rfl (fun hc => ?_) (fun hc => ?_) | refine c_conddn rfl (fun hc => ?_) (fun hc => ?_) | refine c_condn rfl (fun hc => ?_) (fun hc => ?_) | refine c_cond rfl (fun hc => ?_) (fun hc => ?_)) | refine c_block ?_ | refine c_skip ?_ | refine c_exit ?_ | refine c_ret ?_)
      | (refine e_g ?_; first | refine e_then ?_ | refine e_blkn ?_ | refine e_thenx ?_ | refine e_thenr ?_ | refine e_blkr ?_ | refine e_blkx ?_ | refine e_blky rfl ?_)
      | (refine e_ret1 (by simp) rfl (re_tmp rfl) fun w hL => ⟨rfl, _, ⟨hsz, hM⟩, Upd.of hL m0⟩))
set_option maxRecDepth 100000 in
theorem heldSpotS_k (k0 n cap g : Nat) (cur : Array Value) (T : TypeId) (w : World) (hM : Mkd (mk8k k0) cur (n * 2)) (hg : w.heap[g]? = some (.cells cur T (0, 0))) (hn : n ≤ 1048576) (hk0 : k0 ≤ 100000000) :
    Calls Try.prog 22 #[.slice (some ⟨g, 0, none⟩) n cap, .int .i64 (k0 : Int)] w fun e w' => e = .returned (.int .i64 ((k0 : Int) + ((n * 2 : Nat) : Int))) ∧ Below w.heap.size w w' := by
  refine enter2 Try.func22 rfl rfl rfl (Own.start w) ?_
  repeat' (first
    | (refine s_g ?_; first
      | (refine s_k 0 rfl ?_; refine s_val rfl rfl rfl (r_move rfl rfl) ?_)
      | (refine s_k 23 rfl ?_; first | refine s_val rfl rfl rfl (r_field tb rfl rfl rfl) ?_ | refine s_val rfl rfl rfl (r_fieldS tb rfl rfl rfl) ?_)
      | (refine s_k 8 rfl ?_; first | (refine' s_val rfl rfl rfl (r_ldv rfl rfl ?qm ?qv) ?_; (case qm => (exact zMm)); (case qv => (exact zLe))) | (refine' s_val rfl rfl rfl (r_ldo rfl rfl ?qw (by simp) ?qv) ?_; (case qw => assumption); (case qv => (exact zLe))))
      | (refine s_k 1 rfl ?_; refine s_val rfl rfl rfl (r_assign rfl rfl) ?_)
      | (refine s_k 13 rfl ?_; first | refine s_val rfl rfl rfl (r_lss rfl rfl rfl) ?_ | refine s_val rfl rfl rfl (r_neq rfl rfl rfl) ?_ | refine s_val rfl rfl rfl (r_add rfl rfl rfl (wrap_in (by simp only [lo, hi]; omega))) ?_)
      | (refine s_k 15 rfl ?_; refine s_val rfl rfl rfl (r_conv tb rfl rfl rfl rfl (wrap_in (by simp only [lo, hi]; omega))) ?_)
      | (refine s_k 25 rfl ?_; first | refine s_val rfl rfl rfl (r_ixN tb rfl rfl rfl rfl (by omega)) ?_ | refine s_val rfl rfl rfl (r_ixA tb rfl rfl rfl rfl (by omega) (by omega)) ?_ | refine s_val rfl rfl rfl (r_ixO tb rfl rfl rfl rfl (by omega)) ?_)
      | (refine s_k 36 rfl ?_; refine s_val rfl rfl rfl (r_len tb rfl rfl rfl) ?_)
      | refine s_nil ?_)
    | (refine c_g ?_; first | refine c_seq ?_ | refine c_region ?_ | (refine c_gc ?_; first | refine c_cond1 rfl zTr ?_ | refine c_cond0 rfl zTr ?_ | refine z_condd1 rfl ?_ | refine z_condd0 rfl ?_ | refine z_conddn1 rfl ?_ | refine z_conddn0 rfl ?_ | refine c_condd rfl (fun hc => ?_) (fun hc => ?_) | refine c_conddn rfl (fun hc => ?_) (fun hc => ?_) | refine c_condn rfl (fun hc => ?_) (fun hc => ?_) | refine c_cond rfl (fun hc => ?_) (fun hc => ?_)) | refine c_block ?_ | refine c_skip ?_ | refine c_exit ?_ | refine c_ret ?_)
    | (refine e_g ?_; first | refine e_then ?_ | refine e_blkn ?_ | refine e_thenx ?_ | refine e_thenr ?_ | refine e_blkr ?_ | refine e_blkx ?_ | refine e_blky rfl ?_))
  refine c_loop (ι := Nat) (fun i => n - i) (fun i => i ≤ n) (fun i => [(5, .int .i64 (i : Int)), (1, .int .i64 ((k0 : Int) + ((i * 2 : Nat) : Int))), (0, .slice (some ⟨g, 0, none⟩) n cap)]) (fun i => []) 0 (by simp) ?hs rfl ?_
  case hs => (repeat' (first | exact sub_nil | refine sub_cons rfl ?_ | refine sub_cons' rfl (by simp) ?_))
  rintro k hk
  by_cases hlt : k < n
  · have h0 : cur[0 + k * 2 + 0]? = some (.int .i8 (IntKind.i8.wrap ((k0 : Int) + ((k * 2 : Nat) : Int)))) := by rw [show 0 + k * 2 + 0 = k * 2 by omega]; exact hM _ (by omega)
    have h1 : cur[0 + k * 2 + 1]? = some (.int .i8 (IntKind.i8.wrap ((k0 : Int) + ((k * 2 : Nat) : Int) + 1))) := by rw [show 0 + k * 2 + 1 = k * 2 + 1 by omega, hM _ (by omega)]; unfold mk8k; rw [show (k0 : Int) + ((k * 2 : Nat) : Int) + 1 = (k0 : Int) + ((k * 2 + 1 : Nat) : Int) by omega]
    repeat' (first
      | (refine s_g ?_; first
      | (refine s_k 0 rfl ?_; refine s_val rfl rfl rfl (r_move rfl rfl) ?_)
      | (refine s_k 23 rfl ?_; first | refine s_val rfl rfl rfl (r_field tb rfl rfl rfl) ?_ | refine s_val rfl rfl rfl (r_fieldS tb rfl rfl rfl) ?_)
      | (refine s_k 8 rfl ?_; first | (refine' s_val rfl rfl rfl (r_ldv rfl rfl ?qm ?qv) ?_; (case qm => (exact zMm)); (case qv => (first | exact ldvL tb rfl rfl | exact ldv1 tb rfl (by assumption) | exact ldv1 tb rfl (h0) | exact ldv1 tb rfl (h1) | exact zLd))) | (refine' s_val rfl rfl rfl (r_ldo rfl rfl ?qw (by simp) ?qv) ?_; (case qw => assumption); (case qv => (first | exact ldvL tb rfl rfl | exact ldv1 tb rfl (by assumption) | exact ldv1 tb rfl (h0) | exact ldv1 tb rfl (h1) | exact zLd))))
      | (refine s_k 1 rfl ?_; refine s_val rfl rfl rfl (r_assign rfl rfl) ?_)
      | (refine s_k 13 rfl ?_; first | refine s_val rfl rfl rfl (r_lss rfl rfl rfl) ?_ | refine s_val rfl rfl rfl (r_neq rfl rfl rfl) ?_ | refine s_val rfl rfl rfl (r_add rfl rfl rfl (wrap_in (by simp only [lo, hi]; omega))) ?_ | refine s_val rfl rfl rfl (r_add rfl rfl rfl rfl) ?_ | refine s_val rfl rfl rfl (r_sub rfl rfl rfl rfl) ?_ | refine s_val rfl rfl rfl (r_mul rfl rfl rfl rfl) ?_)
      | (refine s_k 15 rfl ?_; first | refine s_val rfl rfl rfl (r_conv tb rfl rfl rfl rfl (wrap_in (by simp only [lo, hi]; omega))) ?_ | refine s_val rfl rfl rfl (r_conv tb rfl rfl rfl rfl rfl) ?_)
      | (refine s_k 25 rfl ?_; first | refine s_val rfl rfl rfl (r_ixO tb rfl rfl rfl rfl hlt) ?_ | refine s_val rfl rfl rfl (r_ixN tb rfl rfl rfl rfl (by omega)) ?_ | refine s_val rfl rfl rfl (r_ixA tb rfl rfl rfl rfl (by omega) (by omega)) ?_ | refine s_val rfl rfl rfl (r_ixO tb rfl rfl rfl rfl (by omega)) ?_)
      | (refine s_k 36 rfl ?_; refine s_val rfl rfl rfl (r_len tb rfl rfl rfl) ?_)
      | refine s_nil ?_)
      | (refine c_g ?_; first | refine c_seq ?_ | refine c_region ?_ | (refine c_gc ?_; first | refine c_cond1 rfl zTr ?_ | refine c_cond0 rfl zTr ?_ | refine z_condd1 rfl ?_ | refine z_condd0 rfl ?_ | refine z_conddn1 rfl ?_ | refine z_conddn0 rfl ?_ | refine c_condd rfl (fun hc => ?_) (fun hc => ?_) | refine c_conddn rfl (fun hc => ?_) (fun hc => ?_) | refine c_condn rfl (fun hc => ?_) (fun hc => ?_) | refine c_cond rfl (fun hc => ?_) (fun hc => ?_)) | refine c_block ?_ | refine c_skip ?_ | refine c_exit ?_ | refine c_ret ?_)
      | (refine e_g ?_; first | refine e_then ?_ | refine e_blkn ?_ | refine e_thenx ?_ | refine e_thenr ?_ | refine e_blkr ?_ | refine e_blkx ?_ | refine e_blky rfl ?_)
      | (refine e_round (k + 1) (by omega) (by omega) ?_ rfl; exact sub_cons rfl (sub_cons' rfl (by congr 1; omega) (sub_cons rfl sub_nil))))
  · have hkn : k = n := by omega
    subst hkn
    repeat' (first
      | (refine s_g ?_; first
      | (refine s_k 0 rfl ?_; refine s_val rfl rfl rfl (r_move rfl rfl) ?_)
      | (refine s_k 23 rfl ?_; first | refine s_val rfl rfl rfl (r_field tb rfl rfl rfl) ?_ | refine s_val rfl rfl rfl (r_fieldS tb rfl rfl rfl) ?_)
      | (refine s_k 8 rfl ?_; first | (refine' s_val rfl rfl rfl (r_ldv rfl rfl ?qm ?qv) ?_; (case qm => (exact zMm)); (case qv => (exact zLe))) | (refine' s_val rfl rfl rfl (r_ldo rfl rfl ?qw (by simp) ?qv) ?_; (case qw => assumption); (case qv => (exact zLe))))
      | (refine s_k 1 rfl ?_; refine s_val rfl rfl rfl (r_assign rfl rfl) ?_)
      | (refine s_k 13 rfl ?_; first | refine s_val rfl rfl rfl (r_lss rfl rfl rfl) ?_ | refine s_val rfl rfl rfl (r_neq rfl rfl rfl) ?_ | refine s_val rfl rfl rfl (r_add rfl rfl rfl (wrap_in (by simp only [lo, hi]; omega))) ?_)
      | (refine s_k 15 rfl ?_; refine s_val rfl rfl rfl (r_conv tb rfl rfl rfl rfl (wrap_in (by simp only [lo, hi]; omega))) ?_)
      | (refine s_k 25 rfl ?_; first | refine s_val rfl rfl rfl (r_ixN tb rfl rfl rfl rfl (by omega)) ?_ | refine s_val rfl rfl rfl (r_ixA tb rfl rfl rfl rfl (by omega) (by omega)) ?_ | refine s_val rfl rfl rfl (r_ixO tb rfl rfl rfl rfl (by omega)) ?_)
      | (refine s_k 36 rfl ?_; refine s_val rfl rfl rfl (r_len tb rfl rfl rfl) ?_)
      | refine s_nil ?_)
      | (refine c_g ?_; first | refine c_seq ?_ | refine c_region ?_ | (refine c_gc ?_; first | refine c_cond1 rfl zTr ?_ | refine c_cond0 rfl zTr ?_ | refine z_condd1 rfl ?_ | refine z_condd0 rfl ?_ | refine z_conddn1 rfl ?_ | refine z_conddn0 rfl ?_ | refine c_condd rfl (fun hc => ?_) (fun hc => ?_) | refine c_conddn rfl (fun hc => ?_) (fun hc => ?_) | refine c_condn rfl (fun hc => ?_) (fun hc => ?_) | refine c_cond rfl (fun hc => ?_) (fun hc => ?_)) | refine c_block ?_ | refine c_skip ?_ | refine c_exit ?_ | refine c_ret ?_)
      | (refine e_g ?_; first | refine e_then ?_ | refine e_blkn ?_ | refine e_thenx ?_ | refine e_thenr ?_ | refine e_blkr ?_ | refine e_blkx ?_ | refine e_blky rfl ?_)
      | (refine e_ret1 (by simp) rfl (re_tmp rfl) fun w hL => ⟨rfl, hL.toBelow⟩))

/-! ## marks in all lists -/
def toN (S : List (List Sp)) (k : Nat) : Nat := 1 + 2 * (S.take k).flatten.length
theorem toN_succ {S : List (List Sp)} {k : Nat} {s : List Sp} (h : S[k]? = some s) : toN S (k + 1) = toN S k + s.length * 2 := by
  unfold toN; rw [List.take_add_one, h]; simp; omega
/-- the first k lists bear the marks, the others are as they were; all lie where they lay -/
structure MkSS (S : List (List Sp)) (I I' : List (Nat × Nat × Array Value)) (k : Nat) : Prop where
  len : I'.length = I.length
  same : ∀ j i i', I[j]? = some i → I'[j]? = some i' → i'.1 = i.1 ∧ i'.2.1 = i.2.1 ∧ i'.2.2.size = i.2.2.size ∧ (k ≤ j → i' = i)
  mark : ∀ j i' s, j < k → I'[j]? = some i' → S[j]? = some s → Mkd (mk8k (toN S j)) i'.2.2 (s.length * 2)
theorem MkSS.zero (S : List (List Sp)) (I : List (Nat × Nat × Array Value)) : MkSS S I I 0 := ⟨rfl, fun j i i' h h' => by rw [h] at h'; injection h' with e; subst e; exact ⟨rfl, rfl, rfl, fun _ => rfl⟩, fun j i' s h => by omega⟩
theorem MkSS.fst {S : List (List Sp)} {I I' : List (Nat × Nat × Array Value)} {k : Nat} (h : MkSS S I I' k) : I'.map (·.1) = I.map (·.1) := by
  apply List.ext_getElem?
  intro j
  rw [List.getElem?_map, List.getElem?_map]
  cases h1 : I[j]? with
  | none =>
    have : I'[j]? = none := by rw [List.getElem?_eq_none_iff] at h1 ⊢; rw [h.len]; exact h1
    rw [this]
  | some i =>
    have hlt := (List.getElem?_eq_some_iff.1 h1).1
    have h2 : I'[j]? = some (I'[j]'(by rw [h.len]; exact hlt)) := List.getElem?_eq_getElem _
    rw [h2]
    have := (h.same j _ _ h1 h2).1
    simp [this]
theorem MkSS.step {S : List (List Sp)} {I I' : List (Nat × Nat × Array Value)} {k : Nat} (h : MkSS S I I' k) {i' : Nat × Nat × Array Value} {s : List Sp} (hi : I'[k]? = some i') (hs : S[k]? = some s) {c : Array Value} (hc : c.size = i'.2.2.size) (hM : Mkd (mk8k (toN S k)) c (s.length * 2)) : MkSS S I (I'.set k (i'.1, i'.2.1, c)) (k + 1) := by
  have hlt := (List.getElem?_eq_some_iff.1 hi).1
  refine ⟨by rw [List.length_set]; exact h.len, fun j i j' h1 h2 => ?_, fun j j' t hj h1 h2 => ?_⟩
  · rw [List.getElem?_set] at h2
    split at h2
    · rename_i e; subst e
      injection h2 with h2; subst h2
      have := h.same _ _ _ h1 hi
      exact ⟨this.1, this.2.1, by rw [← this.2.2.1]; exact hc, fun hle => by omega⟩
    · have := h.same _ _ _ h1 h2
      exact ⟨this.1, this.2.1, this.2.2.1, fun hle => this.2.2.2 (by omega)⟩
  · rw [List.getElem?_set] at h1
    split at h1
    · rename_i e; subst e
      injection h1 with h1; subst h1
      rw [hs] at h2; injection h2 with h2; subst h2
      exact hM
    · exact h.mark j j' t (by omega) h1 h2
theorem itF_set (I : List (Nat × Nat × Array Value)) (k : Nat) (i : Nat × Nat × Array Value) : (itF I).set k (i.1, 52, i.2.2) = itF (I.set k i) := by unfold itF; rw [List.map_set]
theorem itV_get {S : List (List Sp)} {I : List (Nat × Nat × Array Value)} {k : Nat} {s : List Sp} {i : Nat × Nat × Array Value} (hs : S[k]? = some s) (hi : I[k]? = some i) : (itV S I)[k]? = some (Value.slice (some ⟨i.1, 0, none⟩) s.length i.2.1) := by
  unfold itV; rw [List.getElem?_zipWith, hs, hi]
theorem Ap1_getM {n cap : Nat} {cur : Array Value} {V : List Value} (h : Ap 1 n cap cur V) {k : Nat} {v : Value} (hk : V[k]? = some v) : cur[0 + k * 1]? = some v := by
  have h1 := h.take
  rw [Nat.mul_one] at h1
  have h2 : (cur.toList.take n)[k]? = some v := by rw [h1]; exact hk
  rw [List.getElem?_take] at h2
  split at h2
  · simpa using h2
  · cases h2
theorem tk_le (S : List (List Sp)) (k : Nat) : (S.take k).flatten.length ≤ S.flatten.length := by
  have h : S.flatten = (S.take k).flatten ++ (S.drop k).flatten := by rw [← List.flatten_append, List.take_append_drop]
  rw [h, List.length_append]; omega
theorem toN_le (S : List (List Sp)) (k : Nat) : toN S k ≤ 1 + 2 * S.flatten.length := by unfold toN; have := tk_le S k; omega
theorem mem_len {S : List (List Sp)} {s : List Sp} (h : s ∈ S) : s.length ≤ S.flatten.length := by
  obtain ⟨a, b, rfl⟩ := List.append_of_mem h
  simp
  omega
set_option maxRecDepth 100000 in
set_option maxHeartbeats 1600000 in
theorem markSS_any (S : List (List Sp)) (I : List (Nat × Nat × Array Value)) (g cap : Nat) (cur : Array Value) (T : TypeId) (w : World) (hA : Ap 1 S.length cap cur (itV S I)) (hI : ItOk S I) (hg : w.heap[g]? = some (.cells cur T (0, 0))) (hin : ∀ i ∈ I, w.heap[i.1]? = some (.cells i.2.2 52 (0, 0))) (hnd : (I.map (·.1)).Nodup) (hgn : g ∉ I.map (·.1)) (hn : S.length ≤ 1048576) (hN : S.flatten.length ≤ 1048576) :
    Calls Try.prog 17 #[.slice (some ⟨g, 0, none⟩) S.length cap, .int .i64 1] w fun e w' => e = .returned (.int .i64 (toN S S.length : Int)) ∧ ∃ I', MkSS S I I' S.length ∧ UpdL w w' (itF I') := by
  have hinL : ∀ x ∈ itF I, w.heap[x.1]? = some (.cells x.2.2 x.2.1 (0, 0)) := fun x hx => by
    obtain ⟨i, hit, rfl⟩ := List.mem_map.1 hx; exact hin i hit
  have hndL : ((itF I).map (·.1)).Nodup := by rw [itF_fst]; exact hnd
  have hgO : g ∉ (itF I).map (·.1) := by rw [itF_fst]; exact hgn
  refine enter2 Try.func17 rfl rfl rfl (Own.startL w hinL hndL) ?_
  repeat' (first
    | (refine s_g ?_; first
      | (refine s_k 0 rfl ?_; refine s_val rfl rfl rfl (r_move rfl rfl) ?_)
      | (refine s_k 8 rfl ?_; first | (refine' s_val rfl rfl rfl (r_ldv rfl rfl ?qm ?qv) ?_; (case qm => (exact zMm)); (case qv => (exact zLe))) | (refine' s_val rfl rfl rfl (r_ldo rfl rfl ?qw (by simp) ?qv) ?_; (case qw => assumption); (case qv => (exact zLe))))
      | (refine s_k 1 rfl ?_; refine s_val rfl rfl rfl (r_assign rfl rfl) ?_)
      | (refine s_k 13 rfl ?_; first | refine s_val rfl rfl rfl (r_lss rfl rfl rfl) ?_ | refine s_val rfl rfl rfl (r_add rfl rfl rfl (wrap_in (by simp only [lo, hi]; omega))) ?_)
      | (refine s_k 25 rfl ?_; first | refine s_val rfl rfl rfl (r_ixN tb rfl rfl rfl rfl (by omega)) ?_ | refine s_val rfl rfl rfl (r_ixA tb rfl rfl rfl rfl (by omega) (by omega)) ?_ | refine s_val rfl rfl rfl (r_ixO tb rfl rfl rfl rfl (by omega)) ?_)
      | (refine s_k 36 rfl ?_; refine s_val rfl rfl rfl (r_len tb rfl rfl rfl) ?_)
      | refine s_nil ?_)
    | (refine c_g ?_; first | refine c_seq ?_ | refine c_region ?_ | (refine c_gc ?_; first | refine c_cond1 rfl zTr ?_ | refine c_cond0 rfl zTr ?_ | refine z_condd1 rfl ?_ | refine z_condd0 rfl ?_ | refine z_conddn1 rfl ?_ | refine z_conddn0 rfl ?_ | refine c_condd rfl (fun hc => ?_) (fun hc => ?_) | refine c_conddn rfl (fun hc => ?_) (fun hc => ?_) | refine c_condn rfl (fun hc => ?_) (fun hc => ?_) | refine c_cond rfl (fun hc => ?_) (fun hc => ?_)) | refine c_block ?_ | refine c_skip ?_ | refine c_exit ?_ | refine c_ret ?_)
    | (refine e_g ?_; first | refine e_then ?_ | refine e_blkn ?_ | refine e_thenx ?_ | refine e_thenr ?_ | refine e_blkr ?_ | refine e_blkx ?_ | refine e_blky rfl ?_))
  refine c_loop (ι := Nat × List (Nat × Nat × Array Value)) (fun i => S.length - i.1) (fun i => i.1 ≤ S.length ∧ MkSS S I i.2 i.1) (fun i => [(5, .int .i64 (i.1 : Int)), (1, .int .i64 (toN S i.1 : Int)), (0, .slice (some ⟨g, 0, none⟩) S.length cap)]) (fun i => itF i.2) (0, I) ⟨by simp, MkSS.zero S I⟩ ?hs rfl ?_
  case hs => (repeat' (first | exact sub_nil | refine sub_cons rfl ?_))
  rintro ⟨k, I'⟩ ⟨hk, hM⟩
  simp only at hk hM ⊢
  have hto := toN_le S k
  by_cases hlt : k < S.length
  · have hx : S[k]? = some S[k] := List.getElem?_eq_getElem hlt
    have hkI : k < I.length := by rw [hI.len]; exact hlt
    have hit : I[k]? = some I[k] := List.getElem?_eq_getElem hkI
    have hit' : I'[k]? = some (I'[k]'(by rw [hM.len]; exact hkI)) := List.getElem?_eq_getElem _
    have hsame := (hM.same k _ _ hit hit').2.2.2 (Nat.le_refl _)
    rw [hsame] at hit'
    have hAs := hI.ap k _ _ hx hit
    have hv := Ap1_getM hA (itV_get hx hit)
    have hsl := mem_len (List.getElem_mem hlt)
    have hstep := fun c => hM.step (c := c) hit' hx
    have hsu := toN_succ hx
    have hidx : (itF I')[k]? = some (I[k].1, 52, I[k].2.2) := by unfold itF; rw [List.getElem?_map, hit']; rfl
    generalize S[k] = s at *
    generalize I[k] = it at *
    obtain ⟨a, m, c0⟩ := it
    simp only at hAs hv hstep hidx
    have hfit := hAs.fit
    repeat' (first
      | (refine s_g ?_; first
      | (refine s_k 0 rfl ?_; refine s_val rfl rfl rfl (r_move rfl rfl) ?_)
      | (refine s_k 8 rfl ?_; first | refine s_val rfl rfl rfl (r_ldo1 tb rfl rfl hg hgO rfl hv) ?_ | (refine' s_val rfl rfl rfl (r_ldv rfl rfl ?qm ?qv) ?_; (case qm => (exact zMm)); (case qv => (exact zLe))) | (refine' s_val rfl rfl rfl (r_ldo rfl rfl ?qw (by simp) ?qv) ?_; (case qw => assumption); (case qv => (exact zLe))))
      | (refine s_k 1 rfl ?_; refine s_val rfl rfl rfl (r_assign rfl rfl) ?_)
      | (refine s_k 13 rfl ?_; first | refine s_val rfl rfl rfl (r_lss rfl rfl rfl) ?_ | refine s_val rfl rfl rfl (r_add rfl rfl rfl (wrap_in (by simp only [lo, hi]; omega))) ?_)
      | (refine s_k 35 rfl ?_; (refine s_callR (ι := Array Value) (fun c => c.size = c0.size ∧ Mkd (mk8k (toN S k)) c (s.length * 2)) (fun _ => .int .i64 ((toN S k : Int) + ((s.length * 2 : Nat) : Int))) (fun c => itF (I'.set k (a, m, c))) Try.func16 (by kernel_rfl) rfl rfl rfl rfl rfl rfl (fun w hL => (markSpotS_k (toN S k) s.length m a c0 w hfit (hL.has _ (List.mem_of_getElem? hidx)) (by omega) (by omega)).mono fun e w' ⟨he, c, hc, hu⟩ => ⟨c, hc, he, by rw [← itF_set]; exact Kn.upd hL hidx hu⟩) fun c hc => ?_))
      | (refine s_k 25 rfl ?_; first | refine s_val rfl rfl rfl (r_ixO tb rfl rfl rfl rfl hlt) ?_ | refine s_val rfl rfl rfl (r_ixN tb rfl rfl rfl rfl (by omega)) ?_ | refine s_val rfl rfl rfl (r_ixA tb rfl rfl rfl rfl (by omega) (by omega)) ?_ | refine s_val rfl rfl rfl (r_ixO tb rfl rfl rfl rfl (by omega)) ?_)
      | (refine s_k 36 rfl ?_; refine s_val rfl rfl rfl (r_len tb rfl rfl rfl) ?_)
      | refine s_nil ?_)
      | (refine c_g ?_; first | refine c_seq ?_ | refine c_region ?_ | (refine c_gc ?_; first | refine c_cond1 rfl zTr ?_ | refine c_cond0 rfl zTr ?_ | refine z_condd1 rfl ?_ | refine z_condd0 rfl ?_ | refine z_conddn1 rfl ?_ | refine z_conddn0 rfl ?_ | refine c_condd rfl (fun hc => ?_) (fun hc => ?_) | refine c_conddn rfl (fun hc => ?_) (fun hc => ?_) | refine c_condn rfl (fun hc => ?_) (fun hc => ?_) | refine c_cond rfl (fun hc => ?_) (fun hc => ?_)) | refine c_block ?_ | refine c_skip ?_ | refine c_exit ?_ | refine c_ret ?_)
      | (refine e_g ?_; first | refine e_then ?_ | refine e_blkn ?_ | refine e_thenx ?_ | refine e_thenr ?_ | refine e_blkr ?_ | refine e_blkx ?_ | refine e_blky rfl ?_)
      | (refine e_round (k + 1, I'.set k (a, m, c)) (by simp; omega) ⟨by simp; omega, hstep c hc.1 hc.2⟩ ?_ rfl; (repeat' (first | exact sub_nil | refine sub_cons rfl ?_ | refine sub_cons' rfl (by simp only [hsu]; congr 1) ?_))))
  · obtain rfl : k = S.length := by omega
    have hfst : (itF I').map (·.1) = (itF I).map (·.1) := by rw [itF_fst, itF_fst]; exact hM.fst
    repeat' (first
      | (refine s_g ?_; first
      | (refine s_k 0 rfl ?_; refine s_val rfl rfl rfl (r_move rfl rfl) ?_)
      | (refine s_k 8 rfl ?_; first | (refine' s_val rfl rfl rfl (r_ldv rfl rfl ?qm ?qv) ?_; (case qm => (exact zMm)); (case qv => (exact zLe))) | (refine' s_val rfl rfl rfl (r_ldo rfl rfl ?qw (by simp) ?qv) ?_; (case qw => assumption); (case qv => (exact zLe))))
      | (refine s_k 1 rfl ?_; refine s_val rfl rfl rfl (r_assign rfl rfl) ?_)
      | (refine s_k 13 rfl ?_; first | refine s_val rfl rfl rfl (r_lss rfl rfl rfl) ?_ | refine s_val rfl rfl rfl (r_add rfl rfl rfl (wrap_in (by simp only [lo, hi]; omega))) ?_)
      | (refine s_k 25 rfl ?_; first | refine s_val rfl rfl rfl (r_ixN tb rfl rfl rfl rfl (by omega)) ?_ | refine s_val rfl rfl rfl (r_ixA tb rfl rfl rfl rfl (by omega) (by omega)) ?_ | refine s_val rfl rfl rfl (r_ixO tb rfl rfl rfl rfl (by omega)) ?_)
      | (refine s_k 36 rfl ?_; refine s_val rfl rfl rfl (r_len tb rfl rfl rfl) ?_)
      | refine s_nil ?_)
      | (refine c_g ?_; first | refine c_seq ?_ | refine c_region ?_ | (refine c_gc ?_; first | refine c_cond1 rfl zTr ?_ | refine c_cond0 rfl zTr ?_ | refine z_condd1 rfl ?_ | refine z_condd0 rfl ?_ | refine z_conddn1 rfl ?_ | refine z_conddn0 rfl ?_ | refine c_condd rfl (fun hc => ?_) (fun hc => ?_) | refine c_conddn rfl (fun hc => ?_) (fun hc => ?_) | refine c_condn rfl (fun hc => ?_) (fun hc => ?_) | refine c_cond rfl (fun hc => ?_) (fun hc => ?_)) | refine c_block ?_ | refine c_skip ?_ | refine c_exit ?_ | refine c_ret ?_)
      | (refine e_g ?_; first | refine e_then ?_ | refine e_blkn ?_ | refine e_thenx ?_ | refine e_thenr ?_ | refine e_blkr ?_ | refine e_blkx ?_ | refine e_blky rfl ?_)
      | (refine e_ret1 (by simp) rfl (re_tmp rfl) fun w hL => ⟨rfl, I', hM, UpdL.of (by rw [hfst]; exact hL) (fun x hx => hx) (fun x hx _ => hx)⟩))
set_option maxRecDepth 100000 in
set_option maxHeartbeats 1600000 in
theorem heldSS_any (S : List (List Sp)) (I I' : List (Nat × Nat × Array Value)) (g cap : Nat) (cur : Array Value) (T : TypeId) (w : World) (hA : Ap 1 S.length cap cur (itV S I)) (hI : ItOk S I) (hM : MkSS S I I' S.length) (hg : w.heap[g]? = some (.cells cur T (0, 0))) (hin : ∀ i ∈ I', w.heap[i.1]? = some (.cells i.2.2 52 (0, 0))) (hn : S.length ≤ 1048576) (hN : S.flatten.length ≤ 1048576) :
    Calls Try.prog 18 #[.slice (some ⟨g, 0, none⟩) S.length cap, .int .i64 1] w fun e w' => e = .returned (.int .i64 (toN S S.length : Int)) ∧ Below w.heap.size w w' := by
  refine enter2 Try.func18 rfl rfl rfl (Own.start w) ?_
  repeat' (first
    | (refine s_g ?_; first
      | (refine s_k 0 rfl ?_; refine s_val rfl rfl rfl (r_move rfl rfl) ?_)
      | (refine s_k 8 rfl ?_; first | (refine' s_val rfl rfl rfl (r_ldv rfl rfl ?qm ?qv) ?_; (case qm => (exact zMm)); (case qv => (exact zLe))) | (refine' s_val rfl rfl rfl (r_ldo rfl rfl ?qw (by simp) ?qv) ?_; (case qw => assumption); (case qv => (exact zLe))))
      | (refine s_k 1 rfl ?_; refine s_val rfl rfl rfl (r_assign rfl rfl) ?_)
      | (refine s_k 13 rfl ?_; first | refine s_val rfl rfl rfl (r_lss rfl rfl rfl) ?_ | refine s_val rfl rfl rfl (r_add rfl rfl rfl (wrap_in (by simp only [lo, hi]; omega))) ?_)
      | (refine s_k 25 rfl ?_; first | refine s_val rfl rfl rfl (r_ixN tb rfl rfl rfl rfl (by omega)) ?_ | refine s_val rfl rfl rfl (r_ixA tb rfl rfl rfl rfl (by omega) (by omega)) ?_ | refine s_val rfl rfl rfl (r_ixO tb rfl rfl rfl rfl (by omega)) ?_)
      | (refine s_k 36 rfl ?_; refine s_val rfl rfl rfl (r_len tb rfl rfl rfl) ?_)
      | refine s_nil ?_)
    | (refine c_g ?_; first | refine c_seq ?_ | refine c_region ?_ | (refine c_gc ?_; first | refine c_cond1 rfl zTr ?_ | refine c_cond0 rfl zTr ?_ | refine z_condd1 rfl ?_ | refine z_condd0 rfl ?_ | refine z_conddn1 rfl ?_ | refine z_conddn0 rfl ?_ | refine c_condd rfl (fun hc => ?_) (fun hc => ?_) | refine c_conddn rfl (fun hc => ?_) (fun hc => ?_) | refine c_condn rfl (fun hc => ?_) (fun hc => ?_) | refine c_cond rfl (fun hc => ?_) (fun hc => ?_)) | refine c_block ?_ | refine c_skip ?_ | refine c_exit ?_ | refine c_ret ?_)
    | (refine e_g ?_; first | refine e_then ?_ | refine e_blkn ?_ | refine e_thenx ?_ | refine e_thenr ?_ | refine e_blkr ?_ | refine e_blkx ?_ | refine e_blky rfl ?_))
  refine c_loop (ι := Nat) (fun i => S.length - i) (fun i => i ≤ S.length) (fun i => [(5, .int .i64 (i : Int)), (1, .int .i64 (toN S i : Int)), (0, .slice (some ⟨g, 0, none⟩) S.length cap)]) (fun _ => []) 0 (by simp) ?hs rfl ?_
  case hs => (repeat' (first | exact sub_nil | refine sub_cons rfl ?_))
  rintro k hk
  have hto := toN_le S k
  by_cases hlt : k < S.length
  · have hx : S[k]? = some S[k] := List.getElem?_eq_getElem hlt
    have hkI : k < I.length := by rw [hI.len]; exact hlt
    have hit : I[k]? = some I[k] := List.getElem?_eq_getElem hkI
    have hit' : I'[k]? = some (I'[k]'(by rw [hM.len]; exact hkI)) := List.getElem?_eq_getElem _
    have hsame := hM.same k _ _ hit hit'
    have hmk := hM.mark k _ _ hlt hit' hx
    have hv := Ap1_getM hA (itV_get hx hit)
    have hgi := hin _ (List.getElem_mem (by rw [hM.len]; exact hkI : k < I'.length))
    have hsl := mem_len (List.getElem_mem hlt)
    have hsu := toN_succ hx
    rw [← hsame.1, ← hsame.2.1] at hv
    generalize S[k] = s at *
    generalize I'[k]'(by rw [hM.len]; exact hkI) = it at *
    obtain ⟨a, m, c0⟩ := it
    simp only at hv hmk hgi
    have hpos : ¬ ((toN S k : Int) + ((s.length * 2 : Nat) : Int) < 0) := by omega
    repeat' (first
      | (refine s_g ?_; first
      | (refine s_k 0 rfl ?_; refine s_val rfl rfl rfl (r_move rfl rfl) ?_)
      | (refine s_k 8 rfl ?_; first | refine s_val rfl rfl rfl (r_ldo1 tb rfl rfl hg (by simp) rfl hv) ?_ | (refine' s_val rfl rfl rfl (r_ldv rfl rfl ?qm ?qv) ?_; (case qm => (exact zMm)); (case qv => (exact zLe))) | (refine' s_val rfl rfl rfl (r_ldo rfl rfl ?qw (by simp) ?qv) ?_; (case qw => assumption); (case qv => (exact zLe))))
      | (refine s_k 1 rfl ?_; refine s_val rfl rfl rfl (r_assign rfl rfl) ?_)
      | (refine s_k 13 rfl ?_; first | refine s_val rfl rfl rfl (r_lss rfl rfl rfl) ?_ | refine s_val rfl rfl rfl (r_add rfl rfl rfl (wrap_in (by simp only [lo, hi]; omega))) ?_)
      | (refine s_k 35 rfl ?_; (refine s_call Try.func22 (by kernel_rfl) rfl rfl rfl rfl rfl rfl (fun w hL => heldSpotS_k (toN S k) s.length m a c0 _ w hmk (Kn.old hL hgi (by simp)) (by omega) (by omega)) ?_))
      | (refine s_k 25 rfl ?_; first | refine s_val rfl rfl rfl (r_ixO tb rfl rfl rfl rfl hlt) ?_ | refine s_val rfl rfl rfl (r_ixN tb rfl rfl rfl rfl (by omega)) ?_ | refine s_val rfl rfl rfl (r_ixA tb rfl rfl rfl rfl (by omega) (by omega)) ?_ | refine s_val rfl rfl rfl (r_ixO tb rfl rfl rfl rfl (by omega)) ?_)
      | (refine s_k 36 rfl ?_; refine s_val rfl rfl rfl (r_len tb rfl rfl rfl) ?_)
      | refine s_nil ?_)
      | (refine c_g ?_; first | refine c_seq ?_ | refine c_region ?_ | (refine c_gc ?_; first | refine c_cond1 rfl zTr ?_ | refine c_cond0 rfl zTr ?_ | refine z_condd1 rfl ?_ | refine z_condd0 rfl ?_ | refine z_conddn1 rfl ?_ | refine z_conddn0 rfl ?_ | refine c_condd rfl (fun hc => ?_) (fun hc => ?_) | refine c_conddn rfl (fun hc => ?_) (fun hc => ?_) | refine c_condn rfl (fun hc => ?_) (fun hc => ?_) | refine c_cond rfl (fun hc => ?_) (fun hc => ?_)) | refine c_block ?_ | refine c_skip ?_ | refine c_exit ?_ | refine c_ret ?_)
      | (refine e_g ?_; first | refine e_then ?_ | refine e_blkn ?_ | refine e_thenx ?_ | refine e_thenr ?_ | refine e_blkr ?_ | refine e_blkx ?_ | refine e_blky rfl ?_)
      | (refine e_round (k + 1) (by omega) (by omega) ?_ rfl; (repeat' (first | exact sub_nil | refine sub_cons rfl ?_ | refine sub_cons' rfl (by simp only [hsu]; congr 1) ?_))))
  · obtain rfl : k = S.length := by omega
    repeat' (first
      | (refine s_g ?_; first
      | (refine s_k 0 rfl ?_; refine s_val rfl rfl rfl (r_move rfl rfl) ?_)
      | (refine s_k 8 rfl ?_; first | (refine' s_val rfl rfl rfl (r_ldv rfl rfl ?qm ?qv) ?_; (case qm => (exact zMm)); (case qv => (exact zLe))) | (refine' s_val rfl rfl rfl (r_ldo rfl rfl ?qw (by simp) ?qv) ?_; (case qw => assumption); (case qv => (exact zLe))))
      | (refine s_k 1 rfl ?_; refine s_val rfl rfl rfl (r_assign rfl rfl) ?_)
      | (refine s_k 13 rfl ?_; first | refine s_val rfl rfl rfl (r_lss rfl rfl rfl) ?_ | refine s_val rfl rfl rfl (r_add rfl rfl rfl (wrap_in (by simp only [lo, hi]; omega))) ?_)
      | (refine s_k 25 rfl ?_; first | refine s_val rfl rfl rfl (r_ixN tb rfl rfl rfl rfl (by omega)) ?_ | refine s_val rfl rfl rfl (r_ixA tb rfl rfl rfl rfl (by omega) (by omega)) ?_ | refine s_val rfl rfl rfl (r_ixO tb rfl rfl rfl rfl (by omega)) ?_)
      | (refine s_k 36 rfl ?_; refine s_val rfl rfl rfl (r_len tb rfl rfl rfl) ?_)
      | refine s_nil ?_)
      | (refine c_g ?_; first | refine c_seq ?_ | refine c_region ?_ | (refine c_gc ?_; first | refine c_cond1 rfl zTr ?_ | refine c_cond0 rfl zTr ?_ | refine z_condd1 rfl ?_ | refine z_condd0 rfl ?_ | refine z_conddn1 rfl ?_ | refine z_conddn0 rfl ?_ | refine c_condd rfl (fun hc => ?_) (fun hc => ?_) | refine c_conddn rfl (fun hc => ?_) (fun hc => ?_) | refine c_condn rfl (fun hc => ?_) (fun hc => ?_) | refine c_cond rfl (fun hc => ?_) (fun hc => ?_)) | refine c_block ?_ | refine c_skip ?_ | refine c_exit ?_ | refine c_ret ?_)
      | (refine e_g ?_; first | refine e_then ?_ | refine e_blkn ?_ | refine e_thenx ?_ | refine e_thenr ?_ | refine e_blkr ?_ | refine e_blkx ?_ | refine e_blky rfl ?_)
      | (refine e_ret1 (by simp) rfl (re_tmp rfl) fun w hL => ⟨rfl, hL.toBelow⟩))
end Go.Proofs.Ytnafnhpajkhgkaa
