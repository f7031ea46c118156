import Derived.Test.YtnfdefeafhepkaaQH14
import Derived.Test.YtnfdefeafhepkaaQH16
/- Lists of lists of cells; the cells that each of some stakes reaches: the program's. No condition. -/
namespace Go.Proofs.Ytnfdefeafhepkaa
set_option linter.unusedVariables false
set_option linter.unusedSimpArgs false
open Go.RowKit Mem Wk
theorem Wk.e_perm {Q : Exit → Act → World → Prop} {n : Nat} {O : List Nat} {w0 : World} {e : Exit} {l : List (Nat × Value)} {L L' : List (Nat × TypeId × Array Value)} (hp : L.Perm L') (h : E Q n O w0 e l L') : E Q n O w0 e l L := fun a w hF hL => h a w hF (Kn.perm hL hp)
attribute [local irreducible] Calls Wk.S Wk.C Wk.E Wk.X Wk.T Wk.Y Wk.anV Wk.orV Wk.andV Wk.shlV Wk.shrV Calm.wpLex CalmB.wpLex bfsN
theorem Kn.app {O : List Nat} {w0 w w' : World} {L N : List (Nat × TypeId × Array Value)} (hL : Kn O w0 w L) (hN : Kn [] w w' N) : Kn O w0 w' (N ++ L) := by
  have hge : ∀ x ∈ N, w.heap.size ≤ x.1 := fun x hx => (hN.low x hx).resolve_right (by simp)
  have hlt : ∀ x ∈ L, x.1 < w.heap.size := fun x hx => (Array.getElem?_eq_some_iff.1 (hL.has x hx)).1
  refine ⟨hN.os.trans hL.os, hN.tape.trans hL.tape, hN.output.trans hL.output, Nat.le_trans hL.size hN.size, hL.base, fun k hk hx => ?_, fun x hx => ?_, fun x hx => ?_, ?_⟩
  · rw [hN.keep k (Nat.lt_of_lt_of_le hk hL.size) (fun x hxn => hx x (List.mem_append_left _ hxn))]
    exact hL.keep k hk fun x hxl => hx x (List.mem_append_right _ hxl)
  · rcases List.mem_append.1 hx with hx | hx
    · exact .inl (Nat.le_trans hL.size (hge x hx))
    · exact hL.low x hx
  · rcases List.mem_append.1 hx with hx | hx
    · exact hN.has x hx
    · rw [hN.keep x.1 (hlt x hx) (fun y hy => by have := hge y hy; have := hlt x hx; omega)]
      exact hL.has x hx
  · rw [List.map_append, List.nodup_append]
    refine ⟨hN.nodup, hL.nodup, fun a ha b hb e => ?_⟩
    obtain ⟨x, hx, rfl⟩ := List.mem_map.1 ha
    obtain ⟨y, hy, rfl⟩ := List.mem_map.1 hb
    have := hge x hx; have := hlt y hy; omega
/-- the lists' blocks, the newest first; the lists' values; what the blocks hold -/
def itR (items : List (Nat × Nat × Array Value)) : List (Nat × TypeId × Array Value) := items.reverse.map fun i => (i.1, 66, i.2.2)
def itV (S : List (List Sp)) (items : List (Nat × Nat × Array Value)) : List Value := List.zipWith (fun s i => Value.slice (some ⟨i.1, 0, none⟩) s.length i.2.1) S items
structure ItOk (S : List (List Sp)) (items : List (Nat × Nat × Array Value)) : Prop where
  len : items.length = S.length
  ap : ∀ (j : Nat) (s : List Sp) (i : Nat × Nat × Array Value), S[j]? = some s → items[j]? = some i → Ap 2 s.length i.2.1 i.2.2 (flS s)
theorem itR_snoc (items : List (Nat × Nat × Array Value)) (i : Nat × Nat × Array Value) : itR (items ++ [i]) = (i.1, 66, i.2.2) :: itR items := by simp [itR]
theorem itV_snoc {S : List (List Sp)} {items : List (Nat × Nat × Array Value)} (h : items.length = S.length) (s : List Sp) (i : Nat × Nat × Array Value) : itV (S ++ [s]) (items ++ [i]) = itV S items ++ [Value.slice (some ⟨i.1, 0, none⟩) s.length i.2.1] := by
  unfold itV; rw [List.zipWith_append h.symm]; rfl
theorem itV_len {S : List (List Sp)} {items : List (Nat × Nat × Array Value)} (h : items.length = S.length) : (itV S items).length = S.length := by simp [itV, h]
theorem ItOk.snoc {S : List (List Sp)} {items : List (Nat × Nat × Array Value)} (h : ItOk S items) {s : List Sp} {i : Nat × Nat × Array Value} (hA : Ap 2 s.length i.2.1 i.2.2 (flS s)) : ItOk (S ++ [s]) (items ++ [i]) := by
  refine ⟨by simp [h.len], fun j t it hs hi => ?_⟩
  by_cases hj : j < S.length
  · rw [List.getElem?_append_left hj] at hs
    rw [List.getElem?_append_left (by rw [h.len]; exact hj)] at hi
    exact h.ap j t it hs hi
  · rw [List.getElem?_append_right (by omega)] at hs
    rw [List.getElem?_append_right (by have := h.len; omega), h.len] at hi
    rcases Nat.eq_zero_or_pos (j - S.length) with e | e
    · rw [e] at hs hi
      simp at hs hi
      subst hs; subst hi; exact hA
    · rw [List.getElem?_eq_none (by simp; omega)] at hs; cases hs
def NewSS (S : List (List Sp)) (w : World) (e : Ending) (w' : World) : Prop := ∃ g cap cur items, e = .returned (.slice (some ⟨g, 0, none⟩) S.length cap) ∧ Ap 1 S.length cap cur (itV S items) ∧ ItOk S items ∧ Kn [] w w' ((g, 38, cur) :: itR items)
theorem uSS : Try.prog.underlying 40 = some (.slice 38) := by kernel_rfl
theorem iSS : (Try.prog.info? 38).map (fun i => (i.zero, i.size, i.bytes)) = some (some (.slice none 0 0), 1, 24) := by kernel_rfl
end Go.Proofs.Ytnfdefeafhepkaa
/- Append of so many zeros to a nil slice (slices.Grow). Plain theorem; no condition. -/
namespace Go.Proofs.Ytnfdefeafhepkaa
set_option linter.unusedVariables false
set_option linter.unusedSimpArgs false
open Go Go.RowKit Mem Wk
theorem run_growZ {P : Program} (w : World) (t u ty e : TypeId) (i : TypeInfo) (z : Value) (kd : IntKind) (ht : P.underlying t = some (.slice e)) (hu : P.underlying u = some (.int kd)) (hi : P.info? e = some i) (hz : i.zero = some z)
    (n : Nat) (h0 : 0 < n) (hsz : 0 < i.size) (h63 : (n : Int) ≤ 9223372036854775807) (h48 : n * i.bytes ≤ 281474976710656) :
    (Builtin.append_ #[t, u] ty #[.slice none 0 0, .int .i64 (n : Int)]).run P w =
      .ok (.slice (some ⟨w.heap.size, 0, none⟩) n (grownCap w n 0 e)) (w.drew.alloc (.cells (Builtin.zeroCells z.cells n ++ Builtin.zeroCells z.cells (grownCap w n 0 e - n)) e)) := by
  have hn : n ≠ 0 := by omega
  have hs0 : i.size ≠ 0 := by omega
  have h63' : ¬ (9223372036854775807 < (n : Int)) := by omega
  have h48' : ¬ (281474976710656 < Builtin.nextslicecap n 0 * i.bytes) := by rw [nextslicecap_zero h0]; omega
  have h48i : ¬ (281474976710656 < (n : Int) * (i.bytes : Int)) := by
    have : ((n * i.bytes : Nat) : Int) ≤ 281474976710656 := by omega
    rw [Int.natCast_mul] at this; omega
  have hw : IntKind.i64.wrap (n : Int) = n := wrap_in (by simp only [Wk.lo, Wk.hi]; omega)
  have hneg : ¬ ((n : Int) < 0) := by omega
  simp [Builtin.append_, run_underlying ht, run_underlying hu, sizeOf, typeInfo, zeroValue, hi, hz, asInt, asIntOf, hw, hneg, h48i, Builtin.lenOf, hn, hs0, h63', h48', Question.forced, run_firstCells_none, newRow, grownCap]
  intro h; exact absurd h (Nat.mul_ne_zero hn hs0)
namespace Wk
variable {P : Program} {n : Nat} {O : List Nat} {w0 : World} {l : List (Nat × Value)} {L : List (Nat × TypeId × Array Value)} {Q : Exit → Act → World → Prop} {ops : Array Oper} {o : Oper} {rest : List Oper} {d : Nat} {x y : Operand}
theorem r_cap (tb : Tb P) {t : Nat} {A : Option Addr} {m cap : Nat} {e : Nat × Nat} (ho : o.op = .call { callee := .builtin .cap, args := #[x], argTypes := #[t] }) (hx : ev l x = some (.slice A m cap)) (ht : lkT tb.l t = some e) : Rn P n O w0 l L o (.int .i64 (cap : Int)) := fun a w hF hL => by
  have := run_underlying (tb.slice ht).1 w
  simp [execOp, ho, resolve, invoke, builtin, hF.eval hx, Builtin.cap_, this, goInt]
theorem r_slcHn (tb : Tb P) {t el sz : Nat} {kd : IntKind} (ho : o.op = .slice t x none (some y) none) (hx : ev l x = some (.slice none 0 0)) (hy : ev l y = some (.int kd 0)) (ht : lkT tb.l t = some (el, sz)) : Rn P n O w0 l L o (.slice none 0 0) := fun a w hF hL => by
  have hu := (tb.slice ht).1
  have he : P.underlying t = some (.slice (P.elem t)) := by rw [hu]; simp [Program.elem, hu]
  have hel : P.elem t = el := by simp [Program.elem, hu]
  have hs := run_size (tb.slice ht).2 w
  simp only [execOp, ho, Option.map_none, Option.map_some, hF.eval hx, hF.eval hy, Sem.run_bind, run_sliceAt_slice w t _ _ _ _ he, run_slice_h w t none 0 0 he kd 0 (by omega) (by omega), hel, hs, Result.andThen_ok, Sem.run_pure]
  simp [sliced]
/-- What slices.Grow appends to a nil slice. -/
theorem s_growZ {t u e : TypeId} {z : Value} {kd : IntKind} {sz bytes m : Nat} (ho : o.op = .call { callee := .builtin .append, args := #[x, y], argTypes := #[t, u] }) (ht : P.underlying t = some (.slice e)) (hu : P.underlying u = some (.int kd)) (hi : (P.info? e).map (fun i => (i.zero, i.size, i.bytes)) = some (some z, sz, bytes)) (hzs : z.cells.size = sz) (hsz : 0 < sz)
    (hx : ev l x = some (.slice none 0 0)) (hy : ev l y = some (.int .i64 (m : Int))) (h0 : 0 < m) (h63 : m ≤ maxLen) (hbytes : m * bytes ≤ 140737488355328) (hg : o.guard = none) (hd : o.dst = some d) (hdn : Nat.blt d n = true)
    (h : ∀ g cap cur, cur.size = cap * sz → m ≤ cap → cap ≤ maxLen → S P ops Q n O w0 rest ((d, .slice (some ⟨g, 0, none⟩) m cap) :: l) ((g, e, cur) :: L)) : S P ops Q n O w0 (o :: rest) l L := fun a w hF hL =>
  wpList_plain hg fun K hK => by
    obtain ⟨i, q1, q2, q3, q4⟩ := info_parts hi
    subst q3; subst q4
    have hr := run_growZ (P := P) w t u o.type e i z kd ht hu q1 q2 m h0 hsz (by unfold maxLen at h63; omega) (by omega)
    have hge := grownCap_ge w m 0 e
    unfold Oper.wp execOp
    simp only [ho, resolve, invoke, builtin, Sem.run_bind, Sem.run_pure, Result.andThen_ok, List.map_toArray, List.map_cons, List.map_nil, hF.eval hx, hF.eval hy, hr]
    show K (a.put o.dst _) _
    rw [hd]
    refine hK _ _ (h w.heap.size (grownCap w m 0 e) (Builtin.zeroCells z.cells m ++ Builtin.zeroCells z.cells (grownCap w m 0 e - m)) ?_ hge (grownCap_le_maxLen w m 0 e h63) _ _ (hF.put hdn _) (Own.new (Own.drew hL) e _))
    simp only [Array.size_append, size_zeroCells, hzs, ← Nat.add_mul]
    congr 1
    omega
end Wk
end Go.Proofs.Ytnfdefeafhepkaa
namespace Go.Proofs.Ytnfdefeafhepkaa
set_option linter.unusedVariables false
set_option linter.unusedSimpArgs false
open Go.RowKit Mem Wk
attribute [local irreducible] Calls Wk.S Wk.C Wk.E Wk.X Wk.T Wk.Y Wk.anV Wk.orV Wk.andV Wk.shlV Wk.shrV Calm.wpLex CalmB.wpLex bfsN
theorem uI64 : Try.prog.underlying 3 = some (.int .i64) := by kernel_rfl
set_option maxRecDepth 100000 in
theorem grow_some (m : Nat) (w : World) (h0 : 0 < m) (hm : m ≤ 1048576) :
    Calls Try.prog 100 #[.slice none 0 0, .int .i64 (m : Int)] w (NewS 66 2 [] w) := by
  refine enter2 Try.func100 rfl rfl rfl (Own.start w) ?_
  repeat' (first
    | (refine s_g ?_; first
      | (refine s_k 0 rfl ?_; refine s_val rfl rfl rfl (r_move rfl rfl) ?_)
      | (refine s_k 1 rfl ?_; refine s_val rfl rfl rfl (r_assign rfl rfl) ?_)
      | (refine s_k 13 rfl ?_; first | refine s_val rfl rfl rfl (r_lss rfl rfl rfl) ?_ | refine s_val rfl rfl rfl (r_sub rfl rfl rfl (wrap_in (by simp only [lo, hi]; omega))) ?_ | refine s_val rfl rfl rfl (r_gtr rfl rfl rfl) ?_)
      | (refine s_k 36 rfl ?_; first | refine s_val rfl rfl rfl (r_cap tb rfl rfl rfl) ?_ | refine s_growZ (m := m) rfl uSpotS uI64 iSpot rfl (by omega) rfl (by simp only [Int.sub_zero, Int.sub_self]; first | rfl | simp) h0 (by unfold maxLen; omega) (by omega) rfl rfl rfl fun g cap cur hcs hmc hcm => ?_ | refine s_val rfl rfl rfl (r_len tb rfl rfl rfl) ?_)
      | (refine s_k 22 rfl ?_; first | refine s_val rfl rfl rfl (r_slcHn tb rfl rfl rfl rfl) ?_ | refine s_val rfl rfl rfl (r_slcH tb rfl rfl rfl rfl (Nat.zero_le _)) ?_)
      | refine s_nil ?_)
    | (refine c_g ?_; first | refine c_seq ?_ | refine c_region ?_ | (refine c_gc ?_; first | refine c_cond1 rfl zTr ?_ | refine c_cond0 rfl zTr ?_ | refine z_condd1 rfl ?_ | refine z_condd0 rfl ?_ | refine z_conddn1 rfl ?_ | refine z_conddn0 rfl ?_ | refine c_condd rfl (fun hc => ?_) (fun hc => ?_) | refine c_conddn rfl (fun hc => ?_) (fun hc => ?_) | refine c_condn rfl (fun hc => ?_) (fun hc => ?_) | refine c_cond rfl (fun hc => ?_) (fun hc => ?_)) | refine c_block ?_ | refine c_skip ?_ | refine c_exit ?_ | refine c_ret ?_)
    | (refine e_g ?_; first | refine e_then ?_ | refine e_blkn ?_ | refine e_thenx ?_ | refine e_thenr ?_ | refine e_blkr ?_ | refine e_blkx ?_ | refine e_blky rfl ?_)
    | (refine e_ret1 (by simp) rfl (re_tmp rfl) fun w hL => NewS.of ⟨by simp, Nat.zero_le _, hcm, hcs, by simp⟩ hL m0))
set_option maxRecDepth 100000 in
theorem grow_none (w : World) :
    Calls Try.prog 100 #[.slice none 0 0, .int .i64 0] w fun e w' => e = .returned (.slice none 0 0) ∧ Below w.heap.size w w' := by
  refine enter2 Try.func100 rfl rfl rfl (Own.start w) ?_
  repeat' (first
    | (refine s_g ?_; first
      | (refine s_k 0 rfl ?_; refine s_val rfl rfl rfl (r_move rfl rfl) ?_)
      | (refine s_k 1 rfl ?_; refine s_val rfl rfl rfl (r_assign rfl rfl) ?_)
      | (refine s_k 13 rfl ?_; first | refine s_val rfl rfl rfl (r_lss rfl rfl rfl) ?_ | refine s_val rfl rfl rfl (r_sub rfl rfl rfl (wrap_in (by simp only [lo, hi]; omega))) ?_ | refine s_val rfl rfl rfl (r_gtr rfl rfl rfl) ?_)
      | (refine s_k 36 rfl ?_; first | refine s_val rfl rfl rfl (r_cap tb rfl rfl rfl) ?_ | refine s_val rfl rfl rfl (r_len tb rfl rfl rfl) ?_)
      | refine s_nil ?_)
    | (refine c_g ?_; first | refine c_seq ?_ | refine c_region ?_ | (refine c_gc ?_; first | refine c_cond1 rfl zTr ?_ | refine c_cond0 rfl zTr ?_ | refine z_condd1 rfl ?_ | refine z_condd0 rfl ?_ | refine z_conddn1 rfl ?_ | refine z_conddn0 rfl ?_ | refine c_condd rfl (fun hc => ?_) (fun hc => ?_) | refine c_conddn rfl (fun hc => ?_) (fun hc => ?_) | refine c_condn rfl (fun hc => ?_) (fun hc => ?_) | refine c_cond rfl (fun hc => ?_) (fun hc => ?_)) | refine c_block ?_ | refine c_skip ?_ | refine c_exit ?_ | refine c_ret ?_)
    | (refine e_g ?_; first | refine e_then ?_ | refine e_blkn ?_ | refine e_thenx ?_ | refine e_thenr ?_ | refine e_blkr ?_ | refine e_blkx ?_ | refine e_blky rfl ?_)
    | (refine e_ret1 (by simp) rfl (re_tmp rfl) fun w hL => ⟨rfl, hL.toBelow⟩))
end Go.Proofs.Ytnfdefeafhepkaa
