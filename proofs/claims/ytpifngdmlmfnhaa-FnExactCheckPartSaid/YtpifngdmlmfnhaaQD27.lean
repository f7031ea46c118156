import Derived.Test.YtpifngdmlmfnhaaQD10
import Derived.Test.YtpifngdmlmfnhaaQD12
import Derived.Test.YtpifngdmlmfnhaaQD13
import Derived.Test.YtpifngdmlmfnhaaQD15
import Derived.Test.YtpifngdmlmfnhaaQD19
import Derived.Test.YtpifngdmlmfnhaaQD20
import Derived.Test.YtpifngdmlmfnhaaQD21
import Derived.Test.YtpifngdmlmfnhaaQD22
import Derived.Test.YtpifngdmlmfnhaaQD23
import Derived.Test.YtpifngdmlmfnhaaQD26
/- All sides of a pasture that a function accepts; the hurdles that stand: both programs'. No condition. -/
namespace Go.Proofs.Ytpifngdmlmfnhaa
set_option linter.unusedVariables false
set_option linter.unusedSimpArgs false
open Go.RowKit Mem Wk

attribute [local irreducible] Calls Wk.S Wk.C Wk.E Wk.X Wk.T Wk.anV Wk.orV Wk.andV Wk.shlV Wk.shrV Calm.wpLex
/-! lists of hurdles -/
def flH (l : List Hd) : List Value := (l.map Hd.cells).flatten
theorem Wk.Ap.hd {n cap : Nat} {cur : Array Value} {l : List Hd} (h : Ap 3 n cap cur (flH l)) {i : Nat} {s : Hd} (hi : l[i]? = some s) : (0 + i * 3 + 3 ≤ cur.size ∧ cur.extract (0 + i * 3) (0 + i * 3 + 3) = #[.int .i8 s.x, .int .i8 s.y, .bool s.s]) ∧ 0 + i * 3 + 0 + 2 ≤ cur.size ∧ cur.extract (0 + i * 3 + 0) (0 + i * 3 + 0 + 2) = #[.int .i8 s.x, .int .i8 s.y] := by
  simp only [Nat.zero_add, Nat.add_zero]
  have hx : (l.map Hd.cells)[i]? = some s.cells := by simp [hi]
  have he := h.elem (lenHd l) hx
  have h0 : cur[i * 3 + 0]? = some (.int .i8 s.x) := he 0 (by omega)
  have h1 : cur[i * 3 + 1]? = some (.int .i8 s.y) := he 1 (by omega)
  have h2 : cur[i * 3 + 2]? = some (.bool s.s) := he 2 (by omega)
  obtain ⟨q0, e0⟩ := Array.getElem?_eq_some_iff.1 h0
  obtain ⟨q1, e1⟩ := Array.getElem?_eq_some_iff.1 h1
  obtain ⟨q2, e2⟩ := Array.getElem?_eq_some_iff.1 h2
  refine ⟨⟨by omega, ?_⟩, by omega, ?_⟩
  · apply Array.ext
    · simp; omega
    · intro j hj1 hj2
      simp only [List.size_toArray, List.length_cons, List.length_nil] at hj2
      rcases (by omega : j = 0 ∨ j = 1 ∨ j = 2) with rfl | rfl | rfl <;> simp_all [Array.getElem_extract]
  · apply Array.ext
    · simp; omega
    · intro j hj1 hj2
      simp only [List.size_toArray, List.length_cons, List.length_nil] at hj2
      rcases (by omega : j = 0 ∨ j = 1) with rfl | rfl <;> simp_all [Array.getElem_extract]
/-! sides, plainly -/
end Go.Proofs.Ytpifngdmlmfnhaa
/- All sides and the hurdles that stand: the specification's lists and the program's are the same. No condition. -/
namespace Go.Proofs.Ytpifngdmlmfnhaa
set_option linter.unusedVariables false
set_option linter.unusedSimpArgs false
open Go.RowKit Mem Wk
attribute [local irreducible] Calls Wk.S Wk.C Wk.E Wk.X Wk.T Wk.anV Wk.orV Wk.andV Wk.shlV Wk.shrV Calm.wpLex
theorem isH_cells {p : Nat → Int} {h : Hd} (hh : isH p h = true) : isC (p 0) (p 1) h.x h.y = true ∧ isC (p 0) (p 1) (nextX h.x (sdOf h.s)) (nextY h.y (sdOf h.s)) = true := by
  unfold isH at hh; simpa using hh
end Go.Proofs.Ytpifngdmlmfnhaa
/- A pasture whose cells come from those of another one. No condition. -/
namespace Go.Proofs.Ytpifngdmlmfnhaa
set_option linter.unusedVariables false
set_option linter.unusedSimpArgs false
open Go.RowKit Mem Wk
attribute [local irreducible] Calls Wk.S Wk.C Wk.E Wk.X Wk.T Wk.anV Wk.orV Wk.andV Wk.shlV Wk.shrV Calm.wpLex
/-- an empty pasture -/
def base (a b : Int) : Nat → Int := upd (upd (fun _ => 0) 0 a) 1 b
theorem putP_keep (q : Nat → Int) (x y : Int) (s on : Bool) {i : Nat} (h : i < 102) : putP q x y s on i = q i := by
  unfold putP; split <;> exact upd_ne _ _ (by omega)
end Go.Proofs.Ytpifngdmlmfnhaa
/- The cell that a goat chooses: the program's. No condition. -/
namespace Go.Proofs.Ytpifngdmlmfnhaa
set_option linter.unusedVariables false
set_option linter.unusedSimpArgs false
open Go.RowKit Mem Wk
attribute [local irreducible] Calls Wk.C Wk.E Wk.X Wk.T Wk.Y Wk.anV Wk.orV Wk.andV Wk.shlV Wk.shrV Calm.wpLex CalmB.wpLex bfsN
attribute [local irreducible] Wk.S
def chBet (near : Bool) (r n : Int) : Bool := if near then (decide (0 < n) || (decide (n = 0) && decide (0 < r))) else (decide (0 < r) || (decide (r = 0) && decide (0 < n)))
def chStep (p : Nat → Int) (g : Gt) (st : Sp × Bool) (c : Sp) : Sp × Bool :=
  if p (gi c.x c.y) = 0 then st else if !st.2 || chBet (decide (g.likes = 1)) (p (gi c.x c.y) - p (gi st.1.x st.1.y)) (strD p ⟨g.x, g.y⟩ (ci st.1) - strD p ⟨g.x, g.y⟩ (ci c)) then (c, true) else st
def choAt (p : Nat → Int) (g : Gt) (l : List Sp) : Sp × Bool := l.foldl (chStep p g) (⟨0, 0⟩, false)
/-- the choice of a goat, and whether there is one -/
def choV (p : Nat → Int) (g : Gt) : Sp × Bool := choAt p g (gtlL p g)
theorem choAt_inR (p : Nat → Int) (g : Gt) : ∀ (l : List Sp) (st : Sp × Bool), inR st.1 → (∀ c ∈ l, inR c) → inR (l.foldl (chStep p g) st).1
  | [], st, h, _ => h
  | c :: l, st, h, hl => by
    rw [List.foldl_cons]
    refine choAt_inR p g l _ ?_ fun d hd => hl d (List.mem_cons_of_mem _ hd)
    unfold chStep
    split
    · exact h
    · split
      · exact hl c List.mem_cons_self
      · exact h
theorem gtlL_inR {p : Nat → Int} {g : Gt} (ha : p 0 ≤ 10) (hb : p 1 ≤ 10) : ∀ c ∈ gtlL p g, inR c := fun c hc => yard_inR ha hb (List.mem_filter.1 hc).1
end Go.Proofs.Ytpifngdmlmfnhaa
/- JoinYards: both functions. No condition. -/
namespace Go.Proofs.Ytpifngdmlmfnhaa
set_option linter.unusedVariables false
set_option linter.unusedSimpArgs false
open Go.RowKit Mem Wk
attribute [local irreducible] Calls Wk.S Wk.C Wk.E Wk.X Wk.T Wk.Y Wk.anV Wk.orV Wk.andV Wk.shlV Wk.shrV Calm.wpLex CalmB.wpLex bfsN putP
def othS (h : Hd) : Sp := ⟨nextX h.x (sdOf h.s), nextY h.y (sdOf h.s)⟩
theorem isH_facts {p : Nat → Int} {h : Hd} (hh : isH p h = true) : inR ⟨h.x, h.y⟩ ∧ inR (othS h) := ⟨isC_range (isH_cells hh).1, isC_range (isH_cells hh).2⟩
end Go.Proofs.Ytpifngdmlmfnhaa
/- WeakSides: both functions. No condition. -/
namespace Go.Proofs.Ytpifngdmlmfnhaa
set_option linter.unusedVariables false
set_option linter.unusedSimpArgs false
open Go.RowKit Mem Wk
attribute [local irreducible] Calls Wk.S Wk.C Wk.E Wk.X Wk.T Wk.Y Wk.anV Wk.orV Wk.andV Wk.shlV Wk.shrV Calm.wpLex CalmB.wpLex bfsN putP
theorem foldP_keep (on : Bool) : ∀ (l : List Hd) (p : Nat → Int) {i : Nat}, i < 102 → foldP p l on i = p i
  | [], _, _, _ => rfl
  | a :: l, p, i, hi => (foldP_keep on l (putP p a.x a.y a.s on) hi).trans (putP_keep _ _ _ _ _ hi)
end Go.Proofs.Ytpifngdmlmfnhaa
/- Append of so many zeros to a nil slice (slices.Grow). Plain theorem; no condition. -/
namespace Go.Proofs.Ytpifngdmlmfnhaa
set_option linter.unusedVariables false
set_option linter.unusedSimpArgs false
open Go Go.RowKit Mem Wk
theorem run_growZ {P : Program} (w : World) (t u ty e : TypeId) (i : TypeInfo) (z : Value) (kd : IntKind) (ht : P.underlying t = some (.slice e)) (hu : P.underlying u = some (.int kd)) (hi : P.info? e = some i) (hz : i.zero = some z)
    (n : Nat) (h0 : 0 < n) (hsz : 0 < i.size) (h63 : (n : Int) ≤ 9223372036854775807) (h48 : n * i.bytes ≤ 281474976710656) :
    (Builtin.append_ #[t, u] ty #[.slice none 0 0, .int .i64 (n : Int)]).run P w =
      .ok (.slice (some ⟨w.heap.size, 0, none⟩) n (grownCap w n 0 e)) (w.drew.alloc (.cells (Builtin.zeroCells z.cells n ++ Builtin.zeroCells z.cells (grownCap w n 0 e - n)) e)) := by
  have hn : n ≠ 0 := by omega
  have hs0 : i.size ≠ 0 := by omega
  have h63' : ¬ (9223372036854775807 < (n : Int)) := by omega
  have h48' : ¬ (281474976710656 < Builtin.nextslicecap n 0 * i.bytes) := by rw [nextslicecap_zero h0]; omega
  have h48i : ¬ (281474976710656 < (n : Int) * (i.bytes : Int)) := by
    have : ((n * i.bytes : Nat) : Int) ≤ 281474976710656 := by omega
    rw [Int.natCast_mul] at this; omega
  have hw : IntKind.i64.wrap (n : Int) = n := wrap_in (by simp only [Wk.lo, Wk.hi]; omega)
  have hneg : ¬ ((n : Int) < 0) := by omega
  simp [Builtin.append_, run_underlying ht, run_underlying hu, sizeOf, typeInfo, zeroValue, hi, hz, asInt, asIntOf, hw, hneg, h48i, Builtin.lenOf, hn, hs0, h63', h48', Question.forced, run_firstCells_none, newRow, grownCap]
  intro h; exact absurd h (Nat.mul_ne_zero hn hs0)
namespace Wk
variable {P : Program} {n : Nat} {O : List Nat} {w0 : World} {l : List (Nat × Value)} {L : List (Nat × TypeId × Array Value)} {Q : Exit → Act → World → Prop} {ops : Array Oper} {o : Oper} {rest : List Oper} {d : Nat} {x y : Operand}
theorem r_cap (tb : Tb P) {t : Nat} {A : Option Addr} {m cap : Nat} {e : Nat × Nat} (ho : o.op = .call { callee := .builtin .cap, args := #[x], argTypes := #[t] }) (hx : ev l x = some (.slice A m cap)) (ht : lkT tb.l t = some e) : Rn P n O w0 l L o (.int .i64 (cap : Int)) := fun a w hF hL => by
  have := run_underlying (tb.slice ht).1 w
  simp [execOp, ho, resolve, invoke, builtin, hF.eval hx, Builtin.cap_, this, goInt]
theorem r_slcHn (tb : Tb P) {t el sz : Nat} {kd : IntKind} (ho : o.op = .slice t x none (some y) none) (hx : ev l x = some (.slice none 0 0)) (hy : ev l y = some (.int kd 0)) (ht : lkT tb.l t = some (el, sz)) : Rn P n O w0 l L o (.slice none 0 0) := fun a w hF hL => by
  have hu := (tb.slice ht).1
  have he : P.underlying t = some (.slice (P.elem t)) := by rw [hu]; simp [Program.elem, hu]
  have hel : P.elem t = el := by simp [Program.elem, hu]
  have hs := run_size (tb.slice ht).2 w
  simp only [execOp, ho, Option.map_none, Option.map_some, hF.eval hx, hF.eval hy, Sem.run_bind, run_sliceAt_slice w t _ _ _ _ he, run_slice_h w t none 0 0 he kd 0 (by omega) (by omega), hel, hs, Result.andThen_ok, Sem.run_pure]
  simp [sliced]
/-- What slices.Grow appends to a nil slice. -/
theorem s_growZ {t u e : TypeId} {z : Value} {kd : IntKind} {sz bytes m : Nat} (ho : o.op = .call { callee := .builtin .append, args := #[x, y], argTypes := #[t, u] }) (ht : P.underlying t = some (.slice e)) (hu : P.underlying u = some (.int kd)) (hi : (P.info? e).map (fun i => (i.zero, i.size, i.bytes)) = some (some z, sz, bytes)) (hzs : z.cells.size = sz) (hsz : 0 < sz)
    (hx : ev l x = some (.slice none 0 0)) (hy : ev l y = some (.int .i64 (m : Int))) (h0 : 0 < m) (h63 : m ≤ maxLen) (hbytes : m * bytes ≤ 140737488355328) (hg : o.guard = none) (hd : o.dst = some d) (hdn : Nat.blt d n = true)
    (h : ∀ g cap cur, cur.size = cap * sz → m ≤ cap → cap ≤ maxLen → S P ops Q n O w0 rest ((d, .slice (some ⟨g, 0, none⟩) m cap) :: l) ((g, e, cur) :: L)) : S P ops Q n O w0 (o :: rest) l L := fun a w hF hL =>
  wpList_plain hg fun K hK => by
    obtain ⟨i, q1, q2, q3, q4⟩ := info_parts hi
    subst q3; subst q4
    have hr := run_growZ (P := P) w t u o.type e i z kd ht hu q1 q2 m h0 hsz (by unfold maxLen at h63; omega) (by omega)
    have hge := grownCap_ge w m 0 e
    unfold Oper.wp execOp
    simp only [ho, resolve, invoke, builtin, Sem.run_bind, Sem.run_pure, Result.andThen_ok, List.map_toArray, List.map_cons, List.map_nil, hF.eval hx, hF.eval hy, hr]
    show K (a.put o.dst _) _
    rw [hd]
    refine hK _ _ (h w.heap.size (grownCap w m 0 e) (Builtin.zeroCells z.cells m ++ Builtin.zeroCells z.cells (grownCap w m 0 e - m)) ?_ hge (grownCap_le_maxLen w m 0 e h63) _ _ (hF.put hdn _) (Own.new (Own.drew hL) e _))
    simp only [Array.size_append, size_zeroCells, hzs, ← Nat.add_mul]
    congr 1
    omega
end Wk
end Go.Proofs.Ytpifngdmlmfnhaa
namespace Go.Proofs.Ytpifngdmlmfnhaa
set_option linter.unusedVariables false
set_option linter.unusedSimpArgs false
open Go.RowKit Mem Wk
attribute [local irreducible] Calls Wk.S Wk.C Wk.E Wk.X Wk.T Wk.Y Wk.anV Wk.orV Wk.andV Wk.shlV Wk.shrV Calm.wpLex CalmB.wpLex bfsN
theorem uI64 : Try.prog.underlying 3 = some (.int .i64) := by kernel_rfl
set_option maxRecDepth 100000 in
theorem grow_some (m : Nat) (w : World) (h0 : 0 < m) (hm : m ≤ 1048576) :
    Calls Try.prog 206 #[.slice none 0 0, .int .i64 (m : Int)] w (NewS 88 2 [] w) := by
  refine enter2 Try.func206 rfl rfl rfl (Own.start w) ?_
  repeat' (first
    | (refine s_g ?_; first
      | (refine s_k 0 rfl ?_; refine s_val rfl rfl rfl (r_move rfl rfl) ?_)
      | (refine s_k 1 rfl ?_; refine s_val rfl rfl rfl (r_assign rfl rfl) ?_)
      | (refine s_k 13 rfl ?_; first | refine s_val rfl rfl rfl (r_lss rfl rfl rfl) ?_ | refine s_val rfl rfl rfl (r_sub rfl rfl rfl (wrap_in (by simp only [lo, hi]; omega))) ?_ | refine s_val rfl rfl rfl (r_gtr rfl rfl rfl) ?_)
      | (refine s_k 36 rfl ?_; first | refine s_val rfl rfl rfl (r_cap tb rfl rfl rfl) ?_ | refine s_growZ (m := m) rfl uSpotS uI64 iSpot rfl (by omega) rfl (by simp only [Int.sub_zero, Int.sub_self]; first | rfl | simp) h0 (by unfold maxLen; omega) (by omega) rfl rfl rfl fun g cap cur hcs hmc hcm => ?_ | refine s_val rfl rfl rfl (r_len tb rfl rfl rfl) ?_)
      | (refine s_k 22 rfl ?_; first | refine s_val rfl rfl rfl (r_slcHn tb rfl rfl rfl rfl) ?_ | refine s_val rfl rfl rfl (r_slcH tb rfl rfl rfl rfl (Nat.zero_le _)) ?_)
      | refine s_nil ?_)
    | (refine c_g ?_; first | refine c_seq ?_ | refine c_region ?_ | (refine c_gc ?_; first | refine c_cond1 rfl zTr ?_ | refine c_cond0 rfl zTr ?_ | refine z_condd1 rfl ?_ | refine z_condd0 rfl ?_ | refine z_conddn1 rfl ?_ | refine z_conddn0 rfl ?_ | refine c_condd rfl (fun hc => ?_) (fun hc => ?_) | refine c_conddn rfl (fun hc => ?_) (fun hc => ?_) | refine c_condn rfl (fun hc => ?_) (fun hc => ?_) | refine c_cond rfl (fun hc => ?_) (fun hc => ?_)) | refine c_block ?_ | refine c_skip ?_ | refine c_exit ?_ | refine c_ret ?_)
    | (refine e_g ?_; first | refine e_then ?_ | refine e_blkn ?_ | refine e_thenx ?_ | refine e_thenr ?_ | refine e_blkr ?_ | refine e_blkx ?_ | refine e_blky rfl ?_)
    | (refine e_ret1 (by simp) rfl (re_tmp rfl) fun w hL => NewS.of ⟨by simp, Nat.zero_le _, hcm, hcs, by simp⟩ hL m0))
set_option maxRecDepth 100000 in
theorem grow_none (w : World) :
    Calls Try.prog 206 #[.slice none 0 0, .int .i64 0] w fun e w' => e = .returned (.slice none 0 0) ∧ Below w.heap.size w w' := by
  refine enter2 Try.func206 rfl rfl rfl (Own.start w) ?_
  repeat' (first
    | (refine s_g ?_; first
      | (refine s_k 0 rfl ?_; refine s_val rfl rfl rfl (r_move rfl rfl) ?_)
      | (refine s_k 1 rfl ?_; refine s_val rfl rfl rfl (r_assign rfl rfl) ?_)
      | (refine s_k 13 rfl ?_; first | refine s_val rfl rfl rfl (r_lss rfl rfl rfl) ?_ | refine s_val rfl rfl rfl (r_sub rfl rfl rfl (wrap_in (by simp only [lo, hi]; omega))) ?_ | refine s_val rfl rfl rfl (r_gtr rfl rfl rfl) ?_)
      | (refine s_k 36 rfl ?_; first | refine s_val rfl rfl rfl (r_cap tb rfl rfl rfl) ?_ | refine s_val rfl rfl rfl (r_len tb rfl rfl rfl) ?_)
      | refine s_nil ?_)
    | (refine c_g ?_; first | refine c_seq ?_ | refine c_region ?_ | (refine c_gc ?_; first | refine c_cond1 rfl zTr ?_ | refine c_cond0 rfl zTr ?_ | refine z_condd1 rfl ?_ | refine z_condd0 rfl ?_ | refine z_conddn1 rfl ?_ | refine z_conddn0 rfl ?_ | refine c_condd rfl (fun hc => ?_) (fun hc => ?_) | refine c_conddn rfl (fun hc => ?_) (fun hc => ?_) | refine c_condn rfl (fun hc => ?_) (fun hc => ?_) | refine c_cond rfl (fun hc => ?_) (fun hc => ?_)) | refine c_block ?_ | refine c_skip ?_ | refine c_exit ?_ | refine c_ret ?_)
    | (refine e_g ?_; first | refine e_then ?_ | refine e_blkn ?_ | refine e_thenx ?_ | refine e_thenr ?_ | refine e_blkr ?_ | refine e_blkx ?_ | refine e_blky rfl ?_)
    | (refine e_ret1 (by simp) rfl (re_tmp rfl) fun w hL => ⟨rfl, hL.toBelow⟩))
end Go.Proofs.Ytpifngdmlmfnhaa
