import Derived.Test.YtpifngdmlmfnhaaQB14
import Derived.Test.YtpifngdmlmfnhaaQB16
import Derived.Test.YtpifngdmlmfnhaaQB29
/- GreatestReach: the program's. No condition. -/
namespace Go.Proofs.Ytpifngdmlmfnhaa
set_option linter.unusedVariables false
set_option linter.unusedSimpArgs false
open Go.RowKit Mem Wk
attribute [local irreducible] Calls Wk.S Wk.C Wk.E Wk.X Wk.T Wk.Y Wk.andV Wk.shrV Calm.wpLex CalmB.wpLex bfsN
theorem zImplStk : (Try.prog.info? 132).map (·.zero) = some (some (.agg #[.int .i8 0, .int .i8 0, .int .i16 0])) := by kernel_rfl
theorem vs_get {p : Nat → Int} {L : List Sk} (h : validStk p L = true) : p 0 ≤ 10 ∧ p 1 ≤ 10 ∧ L.length ≤ 12 ∧ ∀ (k : Nat) (s : Sk), L[k]? = some s → isC (p 0) (p 1) s.x s.y = true := by
  unfold validStk at h
  simp only [Bool.and_eq_true, decide_eq_true_eq, List.all_eq_true, List.mem_range] at h
  obtain ⟨h1, h2, h3⟩ := h
  obtain ⟨ha, hb⟩ := valid_le2 h1
  refine ⟨ha, hb, h2, fun k s hk => ?_⟩
  have h4 := h3 k (List.getElem?_eq_some_iff.1 hk).1
  unfold itemOk stOk at h4
  simp only [Bool.and_eq_true] at h4
  have e : L.getD k skZ = s := by simp [List.getD_eq_getElem?_getD, hk]
  rw [e] at h4
  exact h4.1.1
/-- the code of a pasture, stakes and a test of numbers -/
def skA (p : Nat → Int) (L : List Sk) (b : Bool) : Int := if validStk p L then (if b then 0 else 2) else 1
set_option maxRecDepth 100000 in
theorem l05Asked_any (p : Nat → Int) (cs : Array Value) (T : TypeId) (gp : Nat) (v : Value) (L : List Sk) (b : Bool) (w : World) (hp : Pv p cs) (hg : w.heap[gp]? = some (.cells cs T (0, 0))) (hU : Sl w 3 v (L.map Sk.cells)) (hok : ∀ s ∈ L, s.ok) :
    Calls Try.prog 91 #[.pointer (some ⟨gp, 0, none⟩), v, .bool b] w fun e w' => e = .returned (.int .i64 (skA p L b)) ∧ Below w.heap.size w w' := by
  have hkc := fun w' (hb' : Below w.heap.size w w') hg' => l05Ok_any p cs T gp v L w' hp hg' (hU.below hb') hok
  obtain ⟨A, cap, rfl, h1, h2, hS⟩ := hU.open
  unfold skA
  cases hvs : validStk p L
  all_goals cases b
  all_goals
    rw [hvs] at hkc
    refine enter3 Try.func91 rfl rfl rfl (Own.start w) ?_
    repeat' (first
      | (refine s_g ?_; first
      | (refine s_k 0 rfl ?_; refine s_val rfl rfl rfl (r_move rfl rfl) ?_)
      | (refine s_k 1 rfl ?_; refine s_val rfl rfl rfl (r_assign rfl rfl) ?_)
      | (refine s_k 35 rfl ?_; (refine s_call Try.func185 (by kernel_rfl) rfl rfl rfl rfl rfl rfl (fun w hL => hkc _ hL.toBelow (Kn.old hL hg (by simp))) ?_))
      | (refine s_k 14 rfl ?_; refine s_val rfl rfl rfl (r_not rfl rfl) ?_)
      | refine s_nil ?_)
      | (refine c_g ?_; first | refine c_seq ?_ | refine c_region ?_ | (refine c_gc ?_; first | refine c_cond1 rfl zTr ?_ | refine c_cond0 rfl zTr ?_ | refine z_condd1 rfl ?_ | refine z_condd0 rfl ?_ | refine z_conddn1 rfl ?_ | refine z_conddn0 rfl ?_ | refine c_condd rfl (fun hc => ?_) (fun hc => ?_) | refine c_conddn rfl (fun hc => ?_) (fun hc => ?_) | refine c_condn rfl (fun hc => ?_) (fun hc => ?_) | refine c_cond rfl (fun hc => ?_) (fun hc => ?_)) | refine c_block ?_ | refine c_skip ?_ | refine c_exit ?_ | refine c_ret ?_)
      | (refine e_g ?_; first | refine e_then ?_ | refine e_blkn ?_ | refine e_thenx ?_ | refine e_thenr ?_ | refine e_blkr ?_ | refine e_blkx ?_ | refine e_blky rfl ?_)
      | (refine e_ret1 (by simp) rfl (re_tmp rfl) fun w hL => ⟨rfl, hL.toBelow⟩))
end Go.Proofs.Ytpifngdmlmfnhaa
/- Lists of lists of cells; the cells that each of some stakes reaches: the program's. No condition. -/
namespace Go.Proofs.Ytpifngdmlmfnhaa
set_option linter.unusedVariables false
set_option linter.unusedSimpArgs false
open Go.RowKit Mem Wk
theorem Wk.e_perm {Q : Exit → Act → World → Prop} {n : Nat} {O : List Nat} {w0 : World} {e : Exit} {l : List (Nat × Value)} {L L' : List (Nat × TypeId × Array Value)} (hp : L.Perm L') (h : E Q n O w0 e l L') : E Q n O w0 e l L := fun a w hF hL => h a w hF (Kn.perm hL hp)
theorem Wk.e_rot3 {Q : Exit → Act → World → Prop} {n : Nat} {O : List Nat} {w0 : World} {e : Exit} {l : List (Nat × Value)} {a b c d : Nat × TypeId × Array Value} {L : List (Nat × TypeId × Array Value)} (h : E Q n O w0 e l (b :: c :: d :: a :: L)) : E Q n O w0 e l (a :: b :: c :: d :: L) := e_perm (List.perm_middle (l₁ := [b, c, d]) (l₂ := L)).symm h
attribute [local irreducible] Calls Wk.S Wk.C Wk.E Wk.X Wk.T Wk.Y Wk.andV Wk.shrV Calm.wpLex CalmB.wpLex bfsN
theorem Kn.app {O : List Nat} {w0 w w' : World} {L N : List (Nat × TypeId × Array Value)} (hL : Kn O w0 w L) (hN : Kn [] w w' N) : Kn O w0 w' (N ++ L) := by
  have hge : ∀ x ∈ N, w.heap.size ≤ x.1 := fun x hx => (hN.low x hx).resolve_right (by simp)
  have hlt : ∀ x ∈ L, x.1 < w.heap.size := fun x hx => (Array.getElem?_eq_some_iff.1 (hL.has x hx)).1
  refine ⟨hN.os.trans hL.os, hN.tape.trans hL.tape, hN.output.trans hL.output, Nat.le_trans hL.size hN.size, hL.base, fun k hk hx => ?_, fun x hx => ?_, fun x hx => ?_, ?_⟩
  · rw [hN.keep k (Nat.lt_of_lt_of_le hk hL.size) (fun x hxn => hx x (List.mem_append_left _ hxn))]
    exact hL.keep k hk fun x hxl => hx x (List.mem_append_right _ hxl)
  · rcases List.mem_append.1 hx with hx | hx
    · exact .inl (Nat.le_trans hL.size (hge x hx))
    · exact hL.low x hx
  · rcases List.mem_append.1 hx with hx | hx
    · exact hN.has x hx
    · rw [hN.keep x.1 (hlt x hx) (fun y hy => by have := hge y hy; have := hlt x hx; omega)]
      exact hL.has x hx
  · rw [List.map_append, List.nodup_append]
    refine ⟨hN.nodup, hL.nodup, fun a ha b hb e => ?_⟩
    obtain ⟨x, hx, rfl⟩ := List.mem_map.1 ha
    obtain ⟨y, hy, rfl⟩ := List.mem_map.1 hb
    have := hge x hx; have := hlt y hy; omega
/-- the lists' blocks, the newest first; the lists' values; what the blocks hold -/
def itR (items : List (Nat × Nat × Array Value)) : List (Nat × TypeId × Array Value) := items.reverse.map fun i => (i.1, 88, i.2.2)
def itV (S : List (List Sp)) (items : List (Nat × Nat × Array Value)) : List Value := List.zipWith (fun s i => Value.slice (some ⟨i.1, 0, none⟩) s.length i.2.1) S items
structure ItOk (S : List (List Sp)) (items : List (Nat × Nat × Array Value)) : Prop where
  len : items.length = S.length
  ap : ∀ (j : Nat) (s : List Sp) (i : Nat × Nat × Array Value), S[j]? = some s → items[j]? = some i → Ap 2 s.length i.2.1 i.2.2 (flS s)
theorem itR_snoc (items : List (Nat × Nat × Array Value)) (i : Nat × Nat × Array Value) : itR (items ++ [i]) = (i.1, 88, i.2.2) :: itR items := by simp [itR]
theorem itV_snoc {S : List (List Sp)} {items : List (Nat × Nat × Array Value)} (h : items.length = S.length) (s : List Sp) (i : Nat × Nat × Array Value) : itV (S ++ [s]) (items ++ [i]) = itV S items ++ [Value.slice (some ⟨i.1, 0, none⟩) s.length i.2.1] := by
  unfold itV; rw [List.zipWith_append h.symm]; rfl
theorem itV_len {S : List (List Sp)} {items : List (Nat × Nat × Array Value)} (h : items.length = S.length) : (itV S items).length = S.length := by simp [itV, h]
theorem ItOk.snoc {S : List (List Sp)} {items : List (Nat × Nat × Array Value)} (h : ItOk S items) {s : List Sp} {i : Nat × Nat × Array Value} (hA : Ap 2 s.length i.2.1 i.2.2 (flS s)) : ItOk (S ++ [s]) (items ++ [i]) := by
  refine ⟨by simp [h.len], fun j t it hs hi => ?_⟩
  by_cases hj : j < S.length
  · rw [List.getElem?_append_left hj] at hs
    rw [List.getElem?_append_left (by rw [h.len]; exact hj)] at hi
    exact h.ap j t it hs hi
  · rw [List.getElem?_append_right (by omega)] at hs
    rw [List.getElem?_append_right (by have := h.len; omega), h.len] at hi
    rcases Nat.eq_zero_or_pos (j - S.length) with e | e
    · rw [e] at hs hi
      simp at hs hi
      subst hs; subst hi; exact hA
    · rw [List.getElem?_eq_none (by simp; omega)] at hs; cases hs
def NewSS (S : List (List Sp)) (w : World) (e : Ending) (w' : World) : Prop := ∃ g cap cur items, e = .returned (.slice (some ⟨g, 0, none⟩) S.length cap) ∧ Ap 1 S.length cap cur (itV S items) ∧ ItOk S items ∧ Kn [] w w' ((g, 40, cur) :: itR items)
theorem uSS : Try.prog.underlying 76 = some (.slice 40) := by kernel_rfl
theorem iSS : (Try.prog.info? 40).map (fun i => (i.zero, i.size, i.bytes)) = some (some (.slice none 0 0), 1, 24) := by kernel_rfl
theorem slSS0 (w : World) : (Instr.buildSlice 76 0 #[]).run Try.prog w = .ok (.slice (some ⟨w.heap.size, 0, none⟩) 0 0) (w.alloc (.cells #[] 40 (0, 0))) := by kernel_rfl
theorem slSS1 (a : Option Addr) (m c : Nat) (w : World) : (Instr.buildSlice 76 1 #[(0, .slice a m c)]).run Try.prog w = .ok (.slice (some ⟨w.heap.size, 0, none⟩) 1 1) (w.alloc (.cells #[.slice a m c] 40 (0, 0))) := by kernel_rfl
def reaL (p : Nat → Int) (L : List Sk) : List (List Sp) := L.map (reachL p)
theorem reaL_snoc {p : Nat → Int} {L : List Sk} {k : Nat} {s : Sk} (h : L[k]? = some s) : reaL p (L.take (k + 1)) = reaL p (L.take k) ++ [reachL p s] := by
  unfold reaL; rw [List.take_add_one, h, List.map_append]; rfl
set_option maxRecDepth 100000 in
set_option maxHeartbeats 1600000 in
theorem reaches_any (p : Nat → Int) (cs : Array Value) (A : Option Addr) (capL : Nat) (L : List Sk) (w : World) (hp : Pv p cs) (hS : SlA [] w 3 A (L.map Sk.cells)) (hok : ∀ s ∈ L, s.ok) (ha : p 0 ≤ 10) (hb : p 1 ≤ 10) (hl12 : L.length ≤ 1048576) (hcell : ∀ s ∈ L, isC (p 0) (p 1) s.x s.y = true) :
    Calls Try.prog 116 #[.agg cs, .slice A L.length capL] w (NewSS (reaL p L) w) := by
  have hsz := hp.size
  refine enter2 Try.func116 rfl rfl rfl (Own.start w) ?_
  repeat' (first
    | (refine s_g ?_; first
      | (refine s_k 0 rfl ?_; refine s_val rfl rfl rfl (r_move rfl rfl) ?_)
      | (refine s_k 8 rfl ?_; first | (refine' s_val rfl rfl rfl (r_ldv rfl rfl ?qm ?qv) ?_; (case qm => (exact zMm)); (case qv => (exact zLe))) | (refine' s_val rfl rfl rfl (r_ldo rfl rfl ?qw (by simp) ?qv) ?_; (case qw => assumption); (case qv => (exact zLe))))
      | (refine s_k 1 rfl ?_; refine s_val rfl rfl rfl (r_assign rfl rfl) ?_)
      | (refine s_k 13 rfl ?_; first | refine s_val rfl rfl rfl (r_lss rfl rfl rfl) ?_ | refine s_val rfl rfl rfl (r_add rfl rfl rfl (wrap_in (by simp only [lo, hi]; omega))) ?_)
      | (refine s_k 25 rfl ?_; first | refine s_val rfl rfl rfl (r_ixN tb rfl rfl rfl rfl (by omega)) ?_ | refine s_val rfl rfl rfl (r_ixA tb rfl rfl rfl rfl (by omega) (by omega)) ?_ | refine s_val rfl rfl rfl (r_ixO tb rfl rfl rfl rfl (by omega)) ?_)
      | (refine s_k 4 rfl ?_; first | refine s_boxA rfl rfl rfl rfl rfl fun blk => ?_ | refine s_box1 rfl rfl rfl rfl rfl rfl fun blk => ?_)
      | (refine s_k 9 rfl ?_; (first | refine s_st1 tb rfl rfl rfl rfl rfl rfl rfl rfl ?_ | refine s_stA tb rfl rfl rfl rfl (by first | rfl | assumption | (apply Pv.size; assumption)) rfl rfl ?_); (first | refine' st0 ?qs ?_ | refine' st1 ?qs ?_ | refine' st2 ?qs ?_ | refine' st3 ?qs ?_ | refine' st4 ?qs ?_ | refine' st5 ?qs ?_ | refine' st6 ?qs ?_ | refine' st7 ?qs ?_ | refine' st8 ?qs ?_ | refine' st9 ?qs ?_ | refine' st10 ?qs ?_ | refine' st11 ?qs ?_); (case qs => (first | exact zSet)))
      | (refine s_k 36 rfl ?_; refine s_val rfl rfl rfl (r_len tb rfl rfl rfl) ?_)
      | (refine s_k 6 rfl ?_; refine s_bsl rfl rfl (fun w => slSS0 w) rfl rfl rfl fun blk => ?_)
      | refine s_nil ?_)
    | (refine c_g ?_; first | refine c_seq ?_ | refine c_region ?_ | (refine c_gc ?_; first | refine c_cond1 rfl zTr ?_ | refine c_cond0 rfl zTr ?_ | refine z_condd1 rfl ?_ | refine z_condd0 rfl ?_ | refine z_conddn1 rfl ?_ | refine z_conddn0 rfl ?_ | refine c_condd rfl (fun hc => ?_) (fun hc => ?_) | refine c_conddn rfl (fun hc => ?_) (fun hc => ?_) | refine c_condn rfl (fun hc => ?_) (fun hc => ?_) | refine c_cond rfl (fun hc => ?_) (fun hc => ?_)) | refine c_block ?_ | refine c_skip ?_ | refine c_exit ?_ | refine c_ret ?_)
    | (refine e_g ?_; first | refine e_then ?_ | refine e_blkn ?_ | refine e_thenx ?_ | refine e_thenr ?_ | refine e_blkr ?_ | refine e_blkx ?_ | refine e_blky rfl ?_))
  rename_i b2
  refine c_loop (ι := Nat × Nat × Nat × Array Value × List (Nat × Nat × Array Value)) (fun i => L.length - i.1) (fun i => i.1 ≤ L.length ∧ Ap 1 (reaL p (L.take i.1)).length i.2.2.1 i.2.2.2.1 (itV (reaL p (L.take i.1)) i.2.2.2.2) ∧ ItOk (reaL p (L.take i.1)) i.2.2.2.2) (fun i => [(11, .int .i64 (i.1 : Int)), (10, .int .i64 (L.length : Int)), (9, .slice A L.length capL), (5, .slice (some ⟨i.2.1, 0, none⟩) (reaL p (L.take i.1)).length i.2.2.1), (2, .pointer (some ⟨b2, 0, none⟩))]) (fun i => (i.2.1, 40, i.2.2.2.1) :: (b2, 34, cs) :: itR i.2.2.2.2) (0, blk, 0, #[], []) ⟨by simp, Ap.nil 1, ⟨rfl, fun j s i h => by simp [reaL] at h⟩⟩ ?hs rfl ?_
  case hs => (repeat' (first | exact sub_nil | refine sub_cons rfl ?_))
  rintro ⟨k, go, cap, cur, items⟩ ⟨hk, hA, hI⟩
  simp only at hk hA hI ⊢
  have hlr : (reaL p (L.take k)).length ≤ 1048576 := by simp [reaL]; omega
  by_cases hlt : k < L.length
  · have hx : L[k]? = some L[k] := List.getElem?_eq_getElem hlt
    have hx' : (L.map Sk.cells)[k]? = some L[k].cells := by simp [hx]
    have hlt' : k < (L.map Sk.cells).length := by simpa using hlt
    have hso := hok _ (List.getElem_mem hlt)
    have hsc := hcell _ (List.getElem_mem hlt)
    have hsn := reaL_snoc (p := p) hx
    generalize L[k] = s at *
    have hrea := fun w => reach_any p cs s w hp hso ha hb hsc
    generalize reachL p s = Y at *
    generalize reaL p (L.take k) = RR at *
    repeat' (first
      | (refine s_g ?_; first
      | (refine s_k 0 rfl ?_; refine s_val rfl rfl rfl (r_move rfl rfl) ?_)
      | (refine s_k 8 rfl ?_; first | refine s_val rfl rfl rfl (r_ldS tb rfl hS rfl hx' rfl) ?_ | (refine' s_val rfl rfl rfl (r_ldv rfl rfl ?qm ?qv) ?_; (case qm => (exact zMm)); (case qv => (exact zLe))) | (refine' s_val rfl rfl rfl (r_ldo rfl rfl ?qw (by simp) ?qv) ?_; (case qw => assumption); (case qv => (exact zLe))))
      | (refine s_k 1 rfl ?_; refine s_val rfl rfl rfl (r_assign rfl rfl) ?_)
      | (refine s_k 13 rfl ?_; first | refine s_val rfl rfl rfl (r_lss rfl rfl rfl) ?_ | refine s_val rfl rfl rfl (r_add rfl rfl rfl (wrap_in (by simp only [lo, hi]; omega))) ?_)
      | (refine s_k 35 rfl ?_; (refine s_callN Try.func107 (by kernel_rfl) rfl rfl rfl rfl rfl rfl (fun w hL => hrea w) fun gr kr capr curr hAr => ?_; obtain rfl := hAr.cnt))
      | (refine s_k 25 rfl ?_; first | refine s_val rfl rfl rfl (r_ixS tb rfl hS rfl rfl rfl (by simp) hlt') ?_ | refine s_val rfl rfl rfl (r_ixN tb rfl rfl rfl rfl (by omega)) ?_ | refine s_val rfl rfl rfl (r_ixA tb rfl rfl rfl rfl (by omega) (by omega)) ?_ | refine s_val rfl rfl rfl (r_ixO tb rfl rfl rfl rfl (by omega)) ?_)
      | (refine s_k 4 rfl ?_; first | refine s_boxA rfl rfl rfl rfl rfl fun blk => ?_ | refine s_box1 rfl rfl rfl rfl rfl rfl fun blk => ?_)
      | (refine s_k 9 rfl ?_; (first | refine s_st1 tb rfl rfl rfl rfl rfl rfl rfl rfl ?_ | refine s_stA tb rfl rfl rfl rfl (by first | rfl | assumption | (apply Pv.size; assumption)) rfl rfl ?_); (first | refine' st0 ?qs ?_ | refine' st1 ?qs ?_ | refine' st2 ?qs ?_ | refine' st3 ?qs ?_ | refine' st4 ?qs ?_ | refine' st5 ?qs ?_ | refine' st6 ?qs ?_ | refine' st7 ?qs ?_ | refine' st8 ?qs ?_ | refine' st9 ?qs ?_ | refine' st10 ?qs ?_ | refine' st11 ?qs ?_); (case qs => (first | exact set_whole (vs := s.cells.toArray) rfl (by simp [Sk.cells, Value.oneCell']) | exact zSet)))
      | (refine s_k 3 rfl ?_; refine s_allocA (t := 132) rfl zImplStk rfl rfl rfl fun blk => ?_)
      | (refine s_k 36 rfl ?_; first | refine s_app2 (c2 := [_]) hA rfl rfl rfl uSS iSS rfl (by omega) (by simp) (by simp) rfl (by simp [Value.oneCell']) (by unfold maxLen; omega) (by omega) rfl rfl rfl fun g' cap' cur' hA' => ?_ | refine s_val rfl rfl rfl (r_len tb rfl rfl rfl) ?_)
      | (refine s_k 6 rfl ?_; refine s_bsl rfl rfl (fun w => slSS1 _ _ _ w) rfl rfl rfl fun blk => ?_)
      | refine s_nil ?_)
      | (refine c_g ?_; first | refine c_seq ?_ | refine c_region ?_ | (refine c_gc ?_; first | refine c_cond1 rfl zTr ?_ | refine c_cond0 rfl zTr ?_ | refine z_condd1 rfl ?_ | refine z_condd0 rfl ?_ | refine z_conddn1 rfl ?_ | refine z_conddn0 rfl ?_ | refine c_condd rfl (fun hc => ?_) (fun hc => ?_) | refine c_conddn rfl (fun hc => ?_) (fun hc => ?_) | refine c_condn rfl (fun hc => ?_) (fun hc => ?_) | refine c_cond rfl (fun hc => ?_) (fun hc => ?_)) | refine c_block ?_ | refine c_skip ?_ | refine c_exit ?_ | refine c_ret ?_)
      | (refine e_g ?_; first | refine e_then ?_ | refine e_blkn ?_ | refine e_thenx ?_ | refine e_thenr ?_ | refine e_blkr ?_ | refine e_blkx ?_ | refine e_blky rfl ?_)
      | (refine e_rot3 (e_drop0 (e_round (k + 1, g', cap', cur', items ++ [(gr, capr, curr)]) (by simp; omega) ⟨by simp; omega, by simp only [hsn]; rw [itV_snoc hI.len]; simpa using hA', by simp only [hsn]; exact hI.snoc hAr⟩ ?_ (by simp only [itR_snoc])))))
    all_goals (rw [hsn]; (repeat' (first | exact sub_nil | refine sub_cons rfl ?_ | refine sub_cons' rfl (by simp) ?_)))
  · have hkl : k = L.length := by omega
    subst hkl
    rw [List.take_length] at hA hI ⊢
    repeat' (first
      | (refine s_g ?_; first
      | (refine s_k 0 rfl ?_; refine s_val rfl rfl rfl (r_move rfl rfl) ?_)
      | (refine s_k 8 rfl ?_; first | (refine' s_val rfl rfl rfl (r_ldv rfl rfl ?qm ?qv) ?_; (case qm => (exact zMm)); (case qv => (exact zLe))) | (refine' s_val rfl rfl rfl (r_ldo rfl rfl ?qw (by simp) ?qv) ?_; (case qw => assumption); (case qv => (exact zLe))))
      | (refine s_k 1 rfl ?_; refine s_val rfl rfl rfl (r_assign rfl rfl) ?_)
      | (refine s_k 13 rfl ?_; first | refine s_val rfl rfl rfl (r_lss rfl rfl rfl) ?_ | refine s_val rfl rfl rfl (r_add rfl rfl rfl (wrap_in (by simp only [lo, hi]; omega))) ?_)
      | (refine s_k 25 rfl ?_; first | refine s_val rfl rfl rfl (r_ixN tb rfl rfl rfl rfl (by omega)) ?_ | refine s_val rfl rfl rfl (r_ixA tb rfl rfl rfl rfl (by omega) (by omega)) ?_ | refine s_val rfl rfl rfl (r_ixO tb rfl rfl rfl rfl (by omega)) ?_)
      | (refine s_k 4 rfl ?_; first | refine s_boxA rfl rfl rfl rfl rfl fun blk => ?_ | refine s_box1 rfl rfl rfl rfl rfl rfl fun blk => ?_)
      | (refine s_k 9 rfl ?_; (first | refine s_st1 tb rfl rfl rfl rfl rfl rfl rfl rfl ?_ | refine s_stA tb rfl rfl rfl rfl (by first | rfl | assumption | (apply Pv.size; assumption)) rfl rfl ?_); (first | refine' st0 ?qs ?_ | refine' st1 ?qs ?_ | refine' st2 ?qs ?_ | refine' st3 ?qs ?_ | refine' st4 ?qs ?_ | refine' st5 ?qs ?_ | refine' st6 ?qs ?_ | refine' st7 ?qs ?_ | refine' st8 ?qs ?_ | refine' st9 ?qs ?_ | refine' st10 ?qs ?_ | refine' st11 ?qs ?_); (case qs => (first | exact zSet)))
      | (refine s_k 36 rfl ?_; refine s_val rfl rfl rfl (r_len tb rfl rfl rfl) ?_)
      | refine s_nil ?_)
      | (refine c_g ?_; first | refine c_seq ?_ | refine c_region ?_ | (refine c_gc ?_; first | refine c_cond1 rfl zTr ?_ | refine c_cond0 rfl zTr ?_ | refine z_condd1 rfl ?_ | refine z_condd0 rfl ?_ | refine z_conddn1 rfl ?_ | refine z_conddn0 rfl ?_ | refine c_condd rfl (fun hc => ?_) (fun hc => ?_) | refine c_conddn rfl (fun hc => ?_) (fun hc => ?_) | refine c_condn rfl (fun hc => ?_) (fun hc => ?_) | refine c_cond rfl (fun hc => ?_) (fun hc => ?_)) | refine c_block ?_ | refine c_skip ?_ | refine c_exit ?_ | refine c_ret ?_)
      | (refine e_g ?_; first | refine e_then ?_ | refine e_blkn ?_ | refine e_thenx ?_ | refine e_thenr ?_ | refine e_blkr ?_ | refine e_blkx ?_ | refine e_blky rfl ?_)
      | (refine e_ret1 (by simp) rfl (re_tmp rfl) fun w hL => ⟨go, cap, cur, items, rfl, hA, hI, ?_⟩))
    all_goals exact (Kn.perm hL (List.Perm.swap _ _ _)).tail0
end Go.Proofs.Ytpifngdmlmfnhaa
/- Pairs of indices that meet. Plain, no condition. -/
namespace Go.Proofs.Ytpifngdmlmfnhaa
set_option linter.unusedVariables false
set_option linter.unusedSimpArgs false
open Go.RowKit Mem Wk

def prRow (M : Nat → Nat → Bool) (i : Nat) : Nat → List (Nat × Nat)
  | 0 => []
  | k + 1 => prRow M i k ++ if decide (i < k) && M i k then [(i, k)] else []
def prAll (M : Nat → Nat → Bool) (n : Nat) : Nat → List (Nat × Nat)
  | 0 => []
  | i + 1 => prAll M n i ++ prRow M i n
def prC (c : Nat × Nat) : List Value := [.int .i64 (c.1 : Int), .int .i64 (c.2 : Int)]
def flPr (l : List (Nat × Nat)) : List Value := (l.map prC).flatten
theorem flPr_snoc (l : List (Nat × Nat)) (c : Nat × Nat) : flPr (l ++ [c]) = flPr l ++ prC c := by simp [flPr]
theorem lenPr (l : List (Nat × Nat)) : ∀ c ∈ l.map prC, c.length = 2 := fun c hc => by obtain ⟨s, _, rfl⟩ := List.mem_map.1 hc; rfl
theorem flPr_len (l : List (Nat × Nat)) : (flPr l).length = l.length * 2 := flat_len _ (lenPr l) |>.trans (by rw [List.length_map])
theorem prRow_start (M : Nat → Nat → Bool) (i : Nat) : ∀ k, k ≤ i + 1 → prRow M i k = []
  | 0, _ => rfl
  | k + 1, h => by rw [prRow, prRow_start M i k (by omega), decide_eq_false (by omega)]; rfl
theorem prRow_yes {M : Nat → Nat → Bool} {i k : Nat} (h : i < k) (hm : M i k = true) : prRow M i (k + 1) = prRow M i k ++ [(i, k)] := by rw [prRow, decide_eq_true h, hm]; rfl
theorem prRow_no {M : Nat → Nat → Bool} {i k : Nat} (hm : M i k = false) : prRow M i (k + 1) = prRow M i k := by rw [prRow, hm]; simp
theorem prRow_len (M : Nat → Nat → Bool) (i : Nat) : ∀ k, (prRow M i k).length ≤ k
  | 0 => Nat.le_refl _
  | k + 1 => by
    rw [prRow, List.length_append]
    have := prRow_len M i k
    split <;> simp <;> omega
theorem prAll_len (M : Nat → Nat → Bool) (n : Nat) : ∀ i, (prAll M n i).length ≤ i * n
  | 0 => by simp [prAll]
  | i + 1 => by
    rw [prAll, List.length_append, Nat.succ_mul]
    have := prAll_len M n i
    have := prRow_len M i n
    omega
theorem prRow_nil {M : Nat → Nat → Bool} {i : Nat} : ∀ k, prRow M i k = [] ↔ ∀ j, i < j → j < k → M i j = false
  | 0 => by simp [prRow]
  | k + 1 => by
    have ih := prRow_nil (M := M) (i := i) k
    rw [prRow, List.append_eq_nil_iff, ih]
    constructor
    · rintro ⟨h1, h2⟩ j h3 h4
      by_cases e : j = k
      · subst e
        rw [decide_eq_true h3] at h2
        cases hM : M i j
        · rfl
        · rw [hM] at h2; simp at h2
      · exact h1 j h3 (by omega)
    · intro h
      refine ⟨fun j h1 h2 => h j h1 (by omega), ?_⟩
      by_cases e : i < k
      · rw [h k e (by omega)]; simp
      · simp [e]
theorem prAll_nil {M : Nat → Nat → Bool} {n : Nat} : ∀ m, prAll M n m = [] ↔ ∀ i j, i < m → i < j → j < n → M i j = false
  | 0 => by simp [prAll]
  | m + 1 => by
    rw [prAll, List.append_eq_nil_iff, prAll_nil m, prRow_nil]
    constructor
    · rintro ⟨h1, h2⟩ i j h3 h4 h5
      by_cases e : i = m
      · subst e; exact h2 j h4 h5
      · exact h1 i j (by omega) h4 h5
    · intro h
      exact ⟨fun i j h1 h2 h3 => h i j (by omega) h2 h3, fun j h1 h2 => h m j (by omega) h1 h2⟩
/-- whether two lists of cells have a cell in common -/
def meetL (S : List (List Sp)) (i k : Nat) : Bool := decide (0 < (cmnL (S.getD i []) (S.getD k [])).length)
end Go.Proofs.Ytpifngdmlmfnhaa
/- slices.Concat of lists of cells; append of nothing. No condition but a length of at most 2^20. -/
namespace Go.Proofs.Ytpifngdmlmfnhaa.Wk
set_option linter.unusedVariables false
set_option linter.unusedSimpArgs false
open Go Go.RowKit Mem
variable {P : Program} {n : Nat} {O : List Nat} {w0 : World} {l : List (Nat × Value)} {L : List (Nat × TypeId × Array Value)} {Q : Exit → Act → World → Prop} {ops : Array Oper} {o : Oper} {rest : List Oper} {d : Nat} {x y : Operand}
end Go.Proofs.Ytpifngdmlmfnhaa.Wk
namespace Go.Proofs.Ytpifngdmlmfnhaa
set_option linter.unusedVariables false
set_option linter.unusedSimpArgs false
open Go.RowKit Mem Wk
attribute [local irreducible] Calls Wk.S Wk.C Wk.E Wk.X Wk.T Wk.Y Wk.andV Wk.shrV Calm.wpLex CalmB.wpLex bfsN
/-- values in the cells of a slice -/
theorem apV {V : List Value} {n cap : Nat} {cur : Array Value} (h : Ap 1 n cap cur V) : n = V.length ∧ ∀ (j : Nat) v, V[j]? = some v → cur[0 + j * 1]? = some v := by
  have h1 := h.len
  rw [Nat.mul_one] at h1
  refine ⟨h1.symm, fun j v hv => ?_⟩
  have h2 := h.take
  rw [Nat.mul_one] at h2
  have hj := (List.getElem?_eq_some_iff.1 hv).1
  rw [← h2, List.getElem?_take, if_pos (by omega), Array.getElem?_toList] at hv
  rw [Nat.zero_add, Nat.mul_one]; exact hv
/-- lists of cells whose slices lie in a block -/
structure SSs (w : World) (S : List (List Sp)) (V : List Value) (cur : Array Value) : Prop where
  len : V.length = S.length
  at_ : ∀ (j : Nat) v, V[j]? = some v → cur[0 + j * 1]? = some v
  sl : ∀ (j : Nat) s v, S[j]? = some s → V[j]? = some v → Sl w 2 v (s.map Sp.cells)
theorem SSs.get {w : World} {S : List (List Sp)} {V : List Value} {cur : Array Value} (h : SSs w S V cur) {j : Nat} {s : List Sp} (hs : S[j]? = some s) : ∃ A cap, cur[0 + j * 1]? = some (.slice A s.length cap) ∧ SlA [] w 2 A (s.map Sp.cells) := by
  have hj := (List.getElem?_eq_some_iff.1 hs).1
  have hv : V[j]? = some (V[j]'(by rw [h.len]; exact hj)) := List.getElem?_eq_getElem _
  obtain ⟨A, cap, e, _, _, hS⟩ := (h.sl j s _ hs hv).open
  rw [List.length_map] at e
  rw [e] at hv
  exact ⟨A, cap, h.at_ j _ hv, hS⟩
theorem SSs.below {w w' : World} {S : List (List Sp)} {V : List Value} {cur : Array Value} (h : SSs w S V cur) (hb : Below w.heap.size w w') : SSs w' S V cur := ⟨h.len, h.at_, fun j s v hs hv => (h.sl j s v hs hv).below hb⟩
theorem SSs.items {w : World} {S : List (List Sp)} {items : List (Nat × Nat × Array Value)} {cap : Nat} {cur : Array Value} (hA : Ap 1 S.length cap cur (itV S items)) (hI : ItOk S items) (hin : ∀ i ∈ items, w.heap[i.1]? = some (.cells i.2.2 88 (0, 0))) : SSs w S (itV S items) cur := by
  refine ⟨itV_len hI.len, (apV hA).2, fun j s v hs hv => ?_⟩
  have hj := (List.getElem?_eq_some_iff.1 hs).1
  have hi : items[j]? = some (items[j]'(by rw [hI.len]; exact hj)) := List.getElem?_eq_getElem _
  unfold itV at hv
  rw [List.getElem?_zipWith, hs, hi] at hv
  injection hv with hv
  subst hv
  exact (hI.ap j s _ hs hi).toSl (lenSp s) (by omega) (hin _ (List.mem_of_getElem? hi))
theorem itR_mem {items : List (Nat × Nat × Array Value)} {i : Nat × Nat × Array Value} (h : i ∈ items) : (i.1, 88, i.2.2) ∈ itR items := by
  unfold itR; exact List.mem_map.2 ⟨i, List.mem_reverse.2 h, rfl⟩
end Go.Proofs.Ytpifngdmlmfnhaa
