import Derived.Test.YtnfdefeafhepkaaQH06
import Derived.Test.YtnfdefeafhepkaaQH09
import Derived.Test.YtnfdefeafhepkaaQH10
import Derived.Test.YtnfdefeafhepkaaQH11
import Derived.Test.YtnfdefeafhepkaaQH12
import Derived.Test.YtnfdefeafhepkaaQH14
import Derived.Test.YtnfdefeafhepkaaQH16
import Derived.Test.YtnfdefeafhepkaaQH22
/- Hurdles that are put or taken, one after another. No condition. -/
namespace Go.Proofs.Ytnfdefeafhepkaa
set_option linter.unusedVariables false
set_option linter.unusedSimpArgs false
open Go.RowKit Mem Wk
attribute [local irreducible] Calls Wk.S Wk.C Wk.E Wk.X Wk.T Wk.anV Wk.orV Wk.andV Wk.shlV Wk.shrV Calm.wpLex
/-- one hurdle after another -/
def foldP (p : Nat → Int) (l : List Hd) (on : Bool) : Nat → Int := l.foldl (fun p h => putP p h.x h.y h.s on) p
theorem foldP_snoc (p : Nat → Int) (l : List Hd) (on : Bool) {k : Nat} {h : Hd} (hk : l[k]? = some h) : foldP p (l.take (k + 1)) on = putP (foldP p (l.take k) on) h.x h.y h.s on := by
  unfold foldP
  rw [List.take_add_one, hk, List.foldl_append]; rfl
def InP (l : List Hd) : Prop := ∀ h ∈ l, (0 ≤ h.x ∧ h.x < 10) ∧ 0 ≤ h.y ∧ h.y < 10
set_option maxRecDepth 100000 in
theorem with_any (p : Nat → Int) (cs c' : Array Value) (l : List Hd) (on : Bool) (A : Option Addr) (cap : Nat) (w : World) (hp : Pv p cs) (hS : SlA [] w 3 A (l.map Hd.cells)) (hn : l.length ≤ maxLen) (hr : InP l) (hc' : Pv (foldP p l on) c') :
    Calls Try.prog 54 #[.agg cs, .slice A l.length cap, .bool on] w fun e w' => e = .returned (.agg c') ∧ Below w.heap.size w w' := by
  unfold maxLen at hn
  refine enter3 Try.func54 rfl rfl rfl (Own.start w) ?_
  repeat' (first
    | (refine s_g ?_; first
      | (refine s_k 0 rfl ?_; refine s_val rfl rfl rfl (r_move rfl rfl) ?_)
      | (refine s_k 8 rfl ?_; first | (refine' s_val rfl rfl rfl (r_ldv rfl rfl ?qm ?qv) ?_; (case qm => (exact zMm)); (case qv => (exact zLe))) | (refine' s_val rfl rfl rfl (r_ldo rfl rfl ?qw (by simp) ?qv) ?_; (case qw => assumption); (case qv => (exact zLe))))
      | (refine s_k 13 rfl ?_; first | refine s_val rfl rfl rfl (r_lss rfl rfl rfl) ?_ | refine s_val rfl rfl rfl (r_add rfl rfl rfl (wrap_in (by simp only [lo, hi]; omega))) ?_)
      | (refine s_k 25 rfl ?_; first | refine s_val rfl rfl rfl (r_ixN tb rfl rfl rfl rfl (by omega)) ?_ | refine s_val rfl rfl rfl (r_ixA tb rfl rfl rfl rfl (by omega) (by omega)) ?_ | refine s_val rfl rfl rfl (r_ixO tb rfl rfl rfl rfl (by omega)) ?_)
      | (refine s_k 4 rfl ?_; first | refine s_boxA rfl rfl rfl rfl rfl fun blk => ?_ | refine s_box1 rfl rfl rfl rfl rfl rfl fun blk => ?_)
      | (refine s_k 9 rfl ?_; (first | refine s_st1 tb rfl rfl rfl rfl rfl rfl rfl rfl ?_ | refine s_stA tb rfl rfl rfl rfl (by first | rfl | assumption | (apply Pv.size; assumption)) rfl rfl ?_); (first | refine' st0 ?qs ?_ | refine' st1 ?qs ?_ | refine' st2 ?qs ?_ | refine' st3 ?qs ?_ | refine' st4 ?qs ?_ | refine' st5 ?qs ?_ | refine' st6 ?qs ?_ | refine' st7 ?qs ?_ | refine' st8 ?qs ?_ | refine' st9 ?qs ?_ | refine' st10 ?qs ?_ | refine' st11 ?qs ?_); (case qs => (first | exact zSet)))
      | (refine s_k 3 rfl ?_; refine s_allocA (t := 36) rfl zImplPas rfl rfl rfl fun blk => ?_)
      | (refine s_k 36 rfl ?_; refine s_val rfl rfl rfl (r_len tb rfl rfl rfl) ?_)
      | refine s_nil ?_)
    | (refine c_g ?_; first | refine c_seq ?_ | refine c_region ?_ | (refine c_gc ?_; first | refine c_cond1 rfl zTr ?_ | refine c_cond0 rfl zTr ?_ | refine z_condd1 rfl ?_ | refine z_condd0 rfl ?_ | refine z_conddn1 rfl ?_ | refine z_conddn0 rfl ?_ | refine c_condd rfl (fun hc => ?_) (fun hc => ?_) | refine c_conddn rfl (fun hc => ?_) (fun hc => ?_) | refine c_condn rfl (fun hc => ?_) (fun hc => ?_) | refine c_cond rfl (fun hc => ?_) (fun hc => ?_)) | refine c_block ?_ | refine c_skip ?_ | refine c_exit ?_ | refine c_ret ?_)
    | (refine e_g ?_; first | refine e_then ?_ | refine e_blkn ?_ | refine e_thenx ?_ | refine e_thenr ?_ | refine e_blkr ?_ | refine e_blkx ?_ | refine e_blky rfl ?_))
  rename_i b3
  refine c_loop (ι := Nat × Array Value) (fun i => l.length - i.1) (fun i => i.1 ≤ l.length ∧ Pv (foldP p (l.take i.1) on) i.2) (fun i => [(11, .int .i64 (i.1 : Int)), (10, .int .i64 (l.length : Int)), (9, .slice A l.length cap), (2, .bool on), (3, .pointer (some ⟨b3, 0, none⟩)), (6, .pointer (some ⟨blk, 0, none⟩))]) (fun i => [(blk, 36, zP), (b3, 36, i.2)]) (0, cs) ⟨by simp, hp⟩ ?hs rfl ?_
  case hs => exact sub_cons rfl (sub_cons rfl (sub_cons rfl (sub_cons rfl (sub_cons rfl (sub_cons rfl sub_nil)))))
  rintro ⟨k, cs⟩ ⟨hk, hp⟩
  by_cases hlt : k < l.length
  · have hx : l[k]? = some l[k] := List.getElem?_eq_getElem hlt
    have hx' : (l.map Hd.cells)[k]? = some l[k].cells := by simp [hx]
    have hlt' : k < (l.map Hd.cells).length := by simpa using hlt
    have hr' := hr l[k] (List.getElem_mem hlt)
    generalize l[k] = h at *
    have hsn := foldP_snoc p l on hx
    repeat' (first
      | (refine s_g ?_; first
      | (refine s_k 0 rfl ?_; refine s_val rfl rfl rfl (r_move rfl rfl) ?_)
      | (refine s_k 8 rfl ?_; first | refine s_val rfl rfl rfl (r_ldS tb rfl hS rfl hx' rfl) ?_ | (refine' s_val rfl rfl rfl (r_ldv rfl rfl ?qm ?qv) ?_; (case qm => (exact zMm)); (case qv => (exact zLe))) | (refine' s_val rfl rfl rfl (r_ldo rfl rfl ?qw (by simp) ?qv) ?_; (case qw => assumption); (case qv => (exact zLe))))
      | (refine s_k 13 rfl ?_; first | refine s_val rfl rfl rfl (r_lss rfl rfl rfl) ?_ | refine s_val rfl rfl rfl (r_add rfl rfl rfl (wrap_in (by simp only [lo, hi]; omega))) ?_)
      | (refine s_k 35 rfl ?_; (refine s_callM2 Try.func104 (by kernel_rfl) rfl rfl rfl rfl rfl rfl (fun w hL hg => put_any _ cs _ _ _ _ _ _ hp hg hr'.1 hr'.2) fun cs hp => ?_))
      | (refine s_k 25 rfl ?_; first | refine s_val rfl rfl rfl (r_ixS tb rfl hS rfl rfl rfl (by simp) hlt') ?_ | refine s_val rfl rfl rfl (r_ixN tb rfl rfl rfl rfl (by omega)) ?_ | refine s_val rfl rfl rfl (r_ixA tb rfl rfl rfl rfl (by omega) (by omega)) ?_ | refine s_val rfl rfl rfl (r_ixO tb rfl rfl rfl rfl (by omega)) ?_)
      | (refine s_k 4 rfl ?_; first | refine s_boxA rfl rfl rfl rfl rfl fun blk => ?_ | refine s_box1 rfl rfl rfl rfl rfl rfl fun blk => ?_)
      | (refine s_k 9 rfl ?_; (first | refine s_st1 tb rfl rfl rfl rfl rfl rfl rfl rfl ?_ | refine s_stA tb rfl rfl rfl rfl (by first | rfl | assumption | (apply Pv.size; assumption)) rfl rfl ?_); (first | refine' st0 ?qs ?_ | refine' st1 ?qs ?_ | refine' st2 ?qs ?_ | refine' st3 ?qs ?_ | refine' st4 ?qs ?_ | refine' st5 ?qs ?_ | refine' st6 ?qs ?_ | refine' st7 ?qs ?_ | refine' st8 ?qs ?_ | refine' st9 ?qs ?_ | refine' st10 ?qs ?_ | refine' st11 ?qs ?_); (case qs => (first | exact zSet)))
      | (refine s_k 3 rfl ?_; refine s_allocA (t := 139) rfl zImplHurdle rfl rfl rfl fun blk => ?_)
      | (refine s_k 36 rfl ?_; refine s_val rfl rfl rfl (r_len tb rfl rfl rfl) ?_)
      | refine s_nil ?_)
      | (refine c_g ?_; first | refine c_seq ?_ | refine c_region ?_ | (refine c_gc ?_; first | refine c_cond1 rfl zTr ?_ | refine c_cond0 rfl zTr ?_ | refine z_condd1 rfl ?_ | refine z_condd0 rfl ?_ | refine z_conddn1 rfl ?_ | refine z_conddn0 rfl ?_ | refine c_condd rfl (fun hc => ?_) (fun hc => ?_) | refine c_conddn rfl (fun hc => ?_) (fun hc => ?_) | refine c_condn rfl (fun hc => ?_) (fun hc => ?_) | refine c_cond rfl (fun hc => ?_) (fun hc => ?_)) | refine c_block ?_ | refine c_skip ?_ | refine c_exit ?_ | refine c_ret ?_)
      | (refine e_g ?_; first | refine e_then ?_ | refine e_blkn ?_ | refine e_thenx ?_ | refine e_thenr ?_ | refine e_blkr ?_ | refine e_blkx ?_ | refine e_blky rfl ?_)
      | refine e_drop0 (e_round (k + 1, cs) (by simp; omega) ⟨by simp; omega, by simpa [hsn] using hp⟩ ?hs rfl)
      | (case hs => exact sub_cons rfl (sub_cons rfl (sub_cons rfl (sub_cons rfl (sub_cons rfl (sub_cons rfl sub_nil)))))))
  · have e : cs = c' := by
      simp only at hk hp
      rw [List.take_of_length_le (by omega)] at hp
      exact hp.uniq hc'
    simp only at hk hp hlt
    repeat' (first
      | (refine s_g ?_; first
      | (refine s_k 0 rfl ?_; refine s_val rfl rfl rfl (r_move rfl rfl) ?_)
      | (refine s_k 8 rfl ?_; first | (refine' s_val rfl rfl rfl (r_ldv rfl rfl ?qm ?qv) ?_; (case qm => (exact zMm)); (case qv => (exact zLe))) | (refine' s_val rfl rfl rfl (r_ldo rfl rfl ?qw (by simp) ?qv) ?_; (case qw => assumption); (case qv => (exact zLe))))
      | (refine s_k 13 rfl ?_; first | refine s_val rfl rfl rfl (r_lss rfl rfl rfl) ?_ | refine s_val rfl rfl rfl (r_add rfl rfl rfl (wrap_in (by simp only [lo, hi]; omega))) ?_)
      | (refine s_k 25 rfl ?_; first | refine s_val rfl rfl rfl (r_ixN tb rfl rfl rfl rfl (by omega)) ?_ | refine s_val rfl rfl rfl (r_ixA tb rfl rfl rfl rfl (by omega) (by omega)) ?_ | refine s_val rfl rfl rfl (r_ixO tb rfl rfl rfl rfl (by omega)) ?_)
      | (refine s_k 4 rfl ?_; first | refine s_boxA rfl rfl rfl rfl rfl fun blk => ?_ | refine s_box1 rfl rfl rfl rfl rfl rfl fun blk => ?_)
      | (refine s_k 9 rfl ?_; (first | refine s_st1 tb rfl rfl rfl rfl rfl rfl rfl rfl ?_ | refine s_stA tb rfl rfl rfl rfl (by first | rfl | assumption | (apply Pv.size; assumption)) rfl rfl ?_); (first | refine' st0 ?qs ?_ | refine' st1 ?qs ?_ | refine' st2 ?qs ?_ | refine' st3 ?qs ?_ | refine' st4 ?qs ?_ | refine' st5 ?qs ?_ | refine' st6 ?qs ?_ | refine' st7 ?qs ?_ | refine' st8 ?qs ?_ | refine' st9 ?qs ?_ | refine' st10 ?qs ?_ | refine' st11 ?qs ?_); (case qs => (first | exact zSet)))
      | (refine s_k 36 rfl ?_; refine s_val rfl rfl rfl (r_len tb rfl rfl rfl) ?_)
      | refine s_nil ?_)
      | (refine c_g ?_; first | refine c_seq ?_ | refine c_region ?_ | (refine c_gc ?_; first | refine c_cond1 rfl zTr ?_ | refine c_cond0 rfl zTr ?_ | refine z_condd1 rfl ?_ | refine z_condd0 rfl ?_ | refine z_conddn1 rfl ?_ | refine z_conddn0 rfl ?_ | refine c_condd rfl (fun hc => ?_) (fun hc => ?_) | refine c_conddn rfl (fun hc => ?_) (fun hc => ?_) | refine c_condn rfl (fun hc => ?_) (fun hc => ?_) | refine c_cond rfl (fun hc => ?_) (fun hc => ?_)) | refine c_block ?_ | refine c_skip ?_ | refine c_exit ?_ | refine c_ret ?_)
      | (refine e_g ?_; first | refine e_then ?_ | refine e_blkn ?_ | refine e_thenx ?_ | refine e_thenr ?_ | refine e_blkr ?_ | refine e_blkx ?_ | refine e_blky rfl ?_)
      | (refine e_ret1 (by simp) rfl (re_cell tb rfl m0 rfl (by first | rfl | assumption | (apply Pv.size; assumption))) fun w hL => ⟨by rw [e], hL.toBelow⟩))
theorem hd_self (x y : Int) (s : Bool) : hdX x (sdOf s) = x ∧ hdY y (sdOf s) = y ∧ hdS (sdOf s) = s := by cases s <;> simp [hdX, hdY, hdS, sdOf]
end Go.Proofs.Ytnfdefeafhepkaa
/- All sides of a pasture that a function accepts; the hurdles that stand: both programs'. No condition. -/
namespace Go.Proofs.Ytnfdefeafhepkaa
set_option linter.unusedVariables false
set_option linter.unusedSimpArgs false
open Go.RowKit Mem Wk

attribute [local irreducible] Calls Wk.S Wk.C Wk.E Wk.X Wk.T Wk.anV Wk.orV Wk.andV Wk.shlV Wk.shrV Calm.wpLex
/-! lists of hurdles -/
def flH (l : List Hd) : List Value := (l.map Hd.cells).flatten
theorem flH_snoc (l : List Hd) (a : Hd) : flH (l ++ [a]) = flH l ++ a.cells := by simp [flH]
theorem iHurdle : (Try.prog.info? 139).map (fun i => (i.zero, i.size, i.bytes)) = some (some (.agg #[.int .i8 0, .int .i8 0, .bool false]), 3, 3) := by kernel_rfl
theorem uHurdleS : Try.prog.underlying 99 = some (.slice 139) := by kernel_rfl
theorem slHurdle0 (w : World) : (Instr.buildSlice 99 0 #[]).run Try.prog w = .ok (.slice (some ⟨w.heap.size, 0, none⟩) 0 0) (w.alloc (.cells #[] 139 (0, 0))) := by kernel_rfl
theorem slHurdle1 (a b c : Value) (w : World) : (Instr.buildSlice 99 1 #[(0, .agg #[a, b, c])]).run Try.prog w = .ok (.slice (some ⟨w.heap.size, 0, none⟩) 1 1) (w.alloc (.cells #[a, b, c] 139 (0, 0))) := by kernel_rfl
theorem Wk.Ap.hd {n cap : Nat} {cur : Array Value} {l : List Hd} (h : Ap 3 n cap cur (flH l)) {i : Nat} {s : Hd} (hi : l[i]? = some s) : (0 + i * 3 + 3 ≤ cur.size ∧ cur.extract (0 + i * 3) (0 + i * 3 + 3) = #[.int .i8 s.x, .int .i8 s.y, .bool s.s]) ∧ 0 + i * 3 + 0 + 2 ≤ cur.size ∧ cur.extract (0 + i * 3 + 0) (0 + i * 3 + 0 + 2) = #[.int .i8 s.x, .int .i8 s.y] := by
  simp only [Nat.zero_add, Nat.add_zero]
  have hx : (l.map Hd.cells)[i]? = some s.cells := by simp [hi]
  have he := h.elem (lenHd l) hx
  have h0 : cur[i * 3 + 0]? = some (.int .i8 s.x) := he 0 (by omega)
  have h1 : cur[i * 3 + 1]? = some (.int .i8 s.y) := he 1 (by omega)
  have h2 : cur[i * 3 + 2]? = some (.bool s.s) := he 2 (by omega)
  obtain ⟨q0, e0⟩ := Array.getElem?_eq_some_iff.1 h0
  obtain ⟨q1, e1⟩ := Array.getElem?_eq_some_iff.1 h1
  obtain ⟨q2, e2⟩ := Array.getElem?_eq_some_iff.1 h2
  refine ⟨⟨by omega, ?_⟩, by omega, ?_⟩
  · apply Array.ext
    · simp; omega
    · intro j hj1 hj2
      simp only [List.size_toArray, List.length_cons, List.length_nil] at hj2
      rcases (by omega : j = 0 ∨ j = 1 ∨ j = 2) with rfl | rfl | rfl <;> simp_all [Array.getElem_extract]
  · apply Array.ext
    · simp; omega
    · intro j hj1 hj2
      simp only [List.size_toArray, List.length_cons, List.length_nil] at hj2
      rcases (by omega : j = 0 ∨ j = 1) with rfl | rfl <;> simp_all [Array.getElem_extract]
/-! sides, plainly -/
end Go.Proofs.Ytnfdefeafhepkaa
/- All sides and the hurdles that stand: the specification's lists and the program's are the same. No condition. -/
namespace Go.Proofs.Ytnfdefeafhepkaa
set_option linter.unusedVariables false
set_option linter.unusedSimpArgs false
open Go.RowKit Mem Wk
attribute [local irreducible] Calls Wk.S Wk.C Wk.E Wk.X Wk.T Wk.anV Wk.orV Wk.andV Wk.shlV Wk.shrV Calm.wpLex
theorem validP_dims {p : Nat → Int} (h : validP p = true) : p 0 = ((p 0).toNat : Int) ∧ p 1 = ((p 1).toNat : Int) ∧ (p 0).toNat ≤ 10 ∧ (p 1).toNat ≤ 10 := by
  unfold validP at h
  simp only [Bool.and_eq_true] at h
  obtain ⟨h0, h1, _⟩ := h
  unfold inB at h0 h1
  simp at h0 h1
  omega
end Go.Proofs.Ytnfdefeafhepkaa
/- A pasture whose cells come from those of another one. No condition. -/
namespace Go.Proofs.Ytnfdefeafhepkaa
set_option linter.unusedVariables false
set_option linter.unusedSimpArgs false
open Go.RowKit Mem Wk
attribute [local irreducible] Calls Wk.S Wk.C Wk.E Wk.X Wk.T Wk.anV Wk.orV Wk.andV Wk.shlV Wk.shrV Calm.wpLex
/-- an empty pasture -/
def base (a b : Int) : Nat → Int := upd (upd (fun _ => 0) 0 a) 1 b
theorem putP_keep (q : Nat → Int) (x y : Int) (s on : Bool) {i : Nat} (h : i < 102) : putP q x y s on i = q i := by
  unfold putP; split <;> exact upd_ne _ _ (by omega)
end Go.Proofs.Ytnfdefeafhepkaa
/- Goats: what makes one valid. No condition. -/
namespace Go.Proofs.Ytnfdefeafhepkaa
set_option linter.unusedVariables false
set_option linter.unusedSimpArgs false
open Go.RowKit Mem
attribute [local irreducible] Calm.wpLex
/-- cells that lie from here on -/
def CellsAt (w : World) (b off : Nat) (c : List Value) : Prop := ∀ (j : Nat) (u : Value), c[j]? = some u → w.cell? ⟨b, off + j, none⟩ = some u
theorem CellsAt.below {w w' : World} {b off : Nat} {c : List Value} (h : CellsAt w b off c) (hb : Below w.heap.size w w') : CellsAt w' b off c := fun j u hu => by
  rw [hb.cell (p := ⟨b, off + j, none⟩) (World.block_lt_of_cell? w _ (h j u hu))]; exact h j u hu
theorem CellsAt.part {w : World} {b off : Nat} {c : List Value} (h : CellsAt w b off c) (k : Nat) {d : List Value} (hd : ∀ (j : Nat) (u : Value), d[j]? = some u → c[k + j]? = some u) : CellsAt w b (off + k) d := fun j u hu => by
  rw [Nat.add_assoc]; exact h _ _ (hd j u hu)
theorem Gt.at_ (g : Gt) : ∀ (j : Nat) (u : Value), (Sp.mk g.x g.y).cells[j]? = some u → g.cells[0 + j]? = some u := fun j u hu => by
  rcases j with _ | _ | j
  · exact hu
  · exact hu
  · cases hu
def sqA (a b c d : Int) : Int := (a - c) * (a - c) + (b - d) * (b - d)
def nearI (g : Gt) (a b : Int) : Bool := decide (g.rope = -1) || decide (sqA g.u g.v a b ≤ g.rope)
end Go.Proofs.Ytnfdefeafhepkaa
/- The cells for a goat: both functions. No condition. -/
namespace Go.Proofs.Ytnfdefeafhepkaa
set_option linter.unusedVariables false
set_option linter.unusedSimpArgs false
open Go.RowKit Mem Wk
attribute [local irreducible] Calls Wk.S Wk.C Wk.E Wk.X Wk.T Wk.Y Wk.anV Wk.orV Wk.andV Wk.shlV Wk.shrV Calm.wpLex CalmB.wpLex bfsN
def gtlL (p : Nat → Int) (g : Gt) : List Sp := (yardL p ⟨g.x, g.y⟩).filter fun c => !!nearI g c.x c.y
theorem gtlL_isC {p : Nat → Int} {g : Gt} (ha : p 0 ≤ 10) (hb : p 1 ≤ 10) : ∀ c ∈ gtlL p g, isC (p 0) (p 1) c.x c.y = true := fun c hc => (pasL_isC ha hb (List.mem_filter.1 hc).1).1
end Go.Proofs.Ytnfdefeafhepkaa
/- The cell that a goat chooses: the program's. No condition. -/
namespace Go.Proofs.Ytnfdefeafhepkaa
set_option linter.unusedVariables false
set_option linter.unusedSimpArgs false
open Go.RowKit Mem Wk
attribute [local irreducible] Calls Wk.C Wk.E Wk.X Wk.T Wk.Y Wk.anV Wk.orV Wk.andV Wk.shlV Wk.shrV Calm.wpLex CalmB.wpLex bfsN
theorem Wk.s_gdu {P : Program} {n : Nat} {O : List Nat} {w0 : World} {l : List (Nat × Value)} {L : List (Nat × TypeId × Array Value)} {Q : Exit → Act → World → Prop} {ops : Array Oper} {rest : List Oper} {d : Nat} {op : Op} {ty : TypeId} {ps : String} {af : Array Edge} {j : Nat} {b : Bool} {t : Nat} (hn : Nat.blt d n = true) (hj : (ops[j]?).bind (·.dst) = some t) (ht : lk l t = some undef) (h : Wk.S P ops Q n O w0 rest ((d, undef) :: l) L) : Wk.S P ops Q n O w0 (⟨some d, op, ty, ps, af, some (j, b)⟩ :: rest) l L := fun a w hF hL => by
  have h2 : Region.wanted ⟨some d, op, ty, ps, af, some (j, b)⟩ (yielded ops a.tmps) = false := by simp [Region.wanted, yu hF hj ht]
  unfold wpList
  rw [if_neg (by rw [h2]; simp)]
  exact h _ _ (hF.put hn undef) hL
attribute [local irreducible] Wk.S
def chBet (near : Bool) (r n : Int) : Bool := if near then (decide (0 < n) || (decide (n = 0) && decide (0 < r))) else (decide (0 < r) || (decide (r = 0) && decide (0 < n)))
def chStep (p : Nat → Int) (g : Gt) (st : Sp × Bool) (c : Sp) : Sp × Bool :=
  if p (gi c.x c.y) = 0 then st else if !st.2 || chBet (decide (g.likes = 1)) (p (gi c.x c.y) - p (gi st.1.x st.1.y)) (strD p ⟨g.x, g.y⟩ (ci st.1) - strD p ⟨g.x, g.y⟩ (ci c)) then (c, true) else st
def choAt (p : Nat → Int) (g : Gt) (l : List Sp) : Sp × Bool := l.foldl (chStep p g) (⟨0, 0⟩, false)
/-- the choice of a goat, and whether there is one -/
def choV (p : Nat → Int) (g : Gt) : Sp × Bool := choAt p g (gtlL p g)
theorem choAt_inR (p : Nat → Int) (g : Gt) : ∀ (l : List Sp) (st : Sp × Bool), inR st.1 → (∀ c ∈ l, inR c) → inR (l.foldl (chStep p g) st).1
  | [], st, h, _ => h
  | c :: l, st, h, hl => by
    rw [List.foldl_cons]
    refine choAt_inR p g l _ ?_ fun d hd => hl d (List.mem_cons_of_mem _ hd)
    unfold chStep
    split
    · exact h
    · split
      · exact hl c List.mem_cons_self
      · exact h
theorem gtlL_inR {p : Nat → Int} {g : Gt} (ha : p 0 ≤ 10) (hb : p 1 ≤ 10) : ∀ c ∈ gtlL p g, inR c := fun c hc => yard_inR ha hb (List.mem_filter.1 hc).1
end Go.Proofs.Ytnfdefeafhepkaa
/- A region that draws its order, with callees that make slices and callees that read these (XCb), and behind all of them a tail in order; new blocks in it. Plain theorems; no condition. -/
namespace Go.Proofs.Ytnfdefeafhepkaa.CalmB
set_option linter.unusedVariables false
set_option linter.unusedSimpArgs false
open Go Go.RowKit Mem Calm
section
variable {P : Program} {ops : Array Oper} {md : Region.Mode} {B : Nat} {w0 : World} {pl : Nat → Plan}
def wpAnyLB (P : Program) (md : Region.Mode) (ops : Array Oper) (B : Nat) (w0 : World) (pl : Nat → Plan) (n : Nat) (Lq : Array Bool → Act → Made → Prop) : Nat → Array Bool → Act → Made → Prop
  | 0, listed, a, E => Lq listed a E
  | f + 1, listed, a, E => Region.ready md ops listed ≠ [] ∧ ∀ i ∈ Region.ready md ops listed, i < n ∧ cOp P ops B w0 pl i (wpAnyLB P md ops B w0 pl n Lq f (listed.setIfInBounds i true)) a E
theorem wpAny_of_headB {n g : Nat} {Lq : Array Bool → Act → Made → Prop} {Q' : Exit → Act → World → Prop} (hB : B ≤ w0.heap.size) (hL : ∀ listed a E w, Holds B w0 E w → Lq listed a E → wpAny P md ops Q' g listed a w) :
    ∀ (f : Nat) (listed : Array Bool) (a : Act) (E : Made) (w : World), Holds B w0 E w → wpAnyLB P md ops B w0 pl n Lq f listed a E → wpAny P md ops Q' (f + g) listed a w
  | 0, listed, a, E, w, hw, h => by rw [Nat.zero_add]; exact hL _ _ _ _ hw h
  | f + 1, listed, a, E, w, hw, h => by
    rw [show f + 1 + g = (f + g) + 1 by omega]
    exact ⟨fun h0 => absurd h0 h.1, fun i hi => wpOp_of_cOp hB hw (fun a' E' w' hw' h' => wpAny_of_headB hB hL f _ a' E' w' hw' h') (h.2 i hi).2⟩
theorem wpAnyLB_first {n i : Nat} {oi : Oper} {Lq : Array Bool → Act → Made → Prop} (hi : ops[i]? = some oi) (hsel : ∀ (j : Nat) (o : Oper) cs b, ops[j]? = some o → o.op ≠ .select cs b)
    (hs : Region.sinkB md ops n = true) (hc : Region.chainB md ops n = true) (hn : n < ops.size) (hin : i < n) (hdone : ∀ listed a E, Lq listed a E → ∀ j ∈ Region.ready md ops listed, n ≤ j) :
    ∀ (f : Nat) (listed : Array Bool) (a : Act) (E : Made), Bounded E → HeadInv md ops n listed →
      (∀ j oj, ops[j]? = some oj → j ≠ i → listed.getD j true = false → (∀ e ∈ oj.after, Region.binds md e = true → e.on ≠ i) → oi.apart ops oj = true) →
      i ∈ Region.ready md ops listed → cOp P ops B w0 pl i (wpAnyLB P md ops B w0 pl n Lq f (listed.setIfInBounds i true)) a E → wpAnyLB P md ops B w0 pl n Lq (f + 1) listed a E := by
  intro f
  induction f with
  | zero =>
    intro listed a E hE inv _ hr H
    have hun := (mem_ready.1 hr).1
    refine ⟨fun h => (by rw [h] at hr; cases hr), fun j hj => ?_⟩
    have hjn : j < n := by
      rcases Nat.lt_or_ge j n with h | h
      · exact h
      · exact absurd hj (tail_waits hs hc hn inv _ i rfl hin hun j h)
    refine ⟨hjn, ?_⟩
    by_cases hji : j = i
    · subst hji; exact H
    · exfalso
      exact cOp_no hi a E hE (cOp_mono (fun a E h => by have := hdone _ _ _ h j (ready_mono hj hji); omega) H)
  | succ f ih =>
    intro listed a E hE inv hfree hr H
    have hun := (mem_ready.1 hr).1
    refine ⟨fun h => (by rw [h] at hr; cases hr), fun j hj => ?_⟩
    have hjn : j < n := by
      rcases Nat.lt_or_ge j n with h | h
      · exact h
      · exact absurd hj (tail_waits hs hc hn inv _ i rfl hin hun j h)
    refine ⟨hjn, ?_⟩
    by_cases hji : j = i
    · subst hji; exact H
    · obtain ⟨hjun, oj, hoj, hall⟩ := mem_ready.1 hj
      have hnot : ∀ e ∈ oj.after, Region.binds md e = true → e.on ≠ i := fun e he hb heq => by
        have h1 := hall e he hb
        rw [heq, getD_both hun] at h1
        cases h1
      have hap := hfree j oj hoj hji hjun hnot
      have h1 := cOp_mono (K' := fun a1 E1 => cOp P ops B w0 pl j (wpAnyLB P md ops B w0 pl n Lq f ((listed.setIfInBounds i true).setIfInBounds j true)) a1 E1) (fun a E h => (h.2 j (ready_mono hj hji)).2) H
      have h2 := cOp_swap hi hoj hap (fun cs b => hsel i oi cs b hi) (fun cs b => hsel j oj cs b hoj) hE h1
      refine cOp_mono_bounded hE (fun a' E' hE' h3 => ih (listed.setIfInBounds j true) a' E' hE' (inv.set hj hjn) ?_ (ready_mono hr (Ne.symm hji)) ?_) h2
      · intro k ok hk hki hun hno
        refine hfree k ok hk hki ?_ hno
        by_cases hjk : j = k
        · subst hjk; exact hjun
        · rw [getD_set_ne true hjk] at hun; exact hun
      · rw [Array.setIfInBounds_comm _ _ hji]
        exact h3
theorem wpAnyLB_lex {n g : Nat} {Lq : Act → Made → Prop} (hsel : Region.noSelect ops = true) (hs : Region.sinkB md ops n = true) (hc : Region.chainB md ops n = true) (hn : n < ops.size) :
    ∀ (l : List Oper) (k : Nat) (listed : Array Bool) (a : Act) (E : Made), Bounded E → (∀ j, j < l.length → l[j]? = ops[k + j]?) → k + l.length = n → (∀ j, j < k → listed.getD j true = true) → HeadInv md ops n listed →
    Region.lexHead md ops g l.length k listed = true → wpLex P ops B w0 pl Lq l k a E →
    wpAnyLB P md ops B w0 pl n (fun listed' a' E' => Region.seqB md ops g n listed' = true ∧ Lq a' E') l.length listed a E
  | [], k, listed, a, E, _, hl, hk, _, _, hB, h => by
    have : k = n := by simpa using hk
    subst this
    exact ⟨by simpa [Region.lexHead] using hB, h⟩
  | o :: l, k, listed, a, E, hE, hl, hk, hkk, inv, hB, h => by
    have h0 : ops[k]? = some o := by simpa using (hl 0 (by simp)).symm
    simp only [List.length_cons, Region.lexHead, Bool.and_eq_true] at hB
    obtain ⟨⟨hr, hf⟩, hB'⟩ := hB
    have hkn : k < n := by simp only [List.length_cons] at hk; omega
    have hr' : k ∈ Region.ready md ops listed := by simpa using hr
    have hC : cOp P ops B w0 pl k (wpLex P ops B w0 pl Lq l (k + 1)) a E := by unfold cOp; simp only [h0]; exact h
    refine wpAnyLB_first h0 (Region.noSelect_spec hsel) hs hc hn hkn (fun listed' a' E' hL => seqB_ready hL.1) l.length listed a E hE inv (fun j oj hj hne hun hno => Region.free_spec h0 hf j oj hj hne hun hno) hr' ?_
    refine cOp_mono_bounded hE (fun a' E' hE' h' => wpAnyLB_lex hsel hs hc hn l (k + 1) _ a' E' hE' (fun j hj => by have := hl (j + 1) (by simp; omega); simpa [Nat.add_assoc, Nat.add_comm 1 j] using this) (by simp only [List.length_cons] at hk; omega) (fun j hj => ?_) (inv.set hr' hkn) hB' h') hC
    by_cases hjk : j = k
    · subst hjk
      have hlt : j < listed.size := by rw [inv.size]; omega
      simp [hlt]
    · rw [getD_set_ne true (Ne.symm hjk)]; exact hkk j (by omega)
end
end Go.Proofs.Ytnfdefeafhepkaa.CalmB
namespace Go.Proofs.Ytnfdefeafhepkaa.Wk
set_option linter.unusedVariables false
set_option linter.unusedSimpArgs false
open Go Go.RowKit Mem Calm
variable {P : Program} {n : Nat} {O : List Nat} {w0 : World} {l : List (Nat × Value)} {N L : List (Nat × TypeId × Array Value)} {Q : Exit → Act → World → Prop} {ops : Array Oper} {o : Oper} {rest : List Oper} {k d : Nat} {pl : Nat → CalmB.Plan} {v : Value}
theorem c_drawYT {id : Nat} {r : List Oper} (m : Nat) (pl : List CalmB.Plan) (hm : P.follows .mixedOrders = true) (hB : Region.lexTailB .any r.toArray m = true)
    (h : Y P r.toArray (TailQ P r.toArray Q (r.drop m)) n O w0 (fun i => pl.getD i (.inl fun _ => undef)) (r.take m) 0 l [] L) : C P Q n O w0 (.region id r.toArray true) l L := fun a w hF hL => by
  have hx := h a w (fun _ => none) hF hL ⟨by simp, fun _ hb => by cases hb⟩
  simp only [Region.lexTailB, Bool.and_eq_true, decide_eq_true_eq] at hB
  obtain ⟨⟨⟨⟨hsel, hn⟩, hs⟩, hc⟩, hlex⟩ := hB
  have hn' : m < r.length := by simpa using hn
  have htl : (r.take m).length = m := by simp; omega
  have hdl : (r.drop m).length = r.toArray.size - m := by simp
  have inv0 : HeadInv .any r.toArray m (Array.replicate r.toArray.size false) :=
    ⟨by simp, fun j oj _ hl => (by rw [getD_replicate_false] at hl; cases hl), fun t _ ht => getD_in (by simpa using ht) (getD_replicate_false _ _)⟩
  have H := CalmB.wpAnyLB_lex (P := P) (B := w.heap.size) (w0 := w) (pl := fun i => pl.getD i (.inl fun _ => undef)) (md := .any) (g := r.toArray.size - m) hsel hs hc hn (r.take m) 0 _ a (fun _ => none) ⟨0, fun _ _ => rfl⟩ (fun j hj => by
    have hj' : j < m := by rw [htl] at hj; exact hj
    simp [hj']) (by simpa using htl) (fun j hj => by omega) inv0 (by rw [htl]; exact hlex) hx
  refine wp_region_any hm ?_
  have := CalmB.wpAny_of_headB (P := P) (B := w.heap.size) (w0 := w) (Q' := Q) (g := r.toArray.size - m) (Nat.le_refl _) (fun listed a' E' w' hw' hL' => by
    have := wpAny_of_seq (md := .any) (Q' := Q) (r.drop m) m listed a' w' (fun j => by simp [List.getElem?_drop]) (by rw [hdl]; exact hL'.1) (hL'.2 w' hw')
    rwa [hdl] at this) _ _ _ _ { w with drawn := w.drawn + 1 } ⟨⟨rfl, rfl, rfl, Nat.le_refl _, fun _ _ => rfl⟩, fun _ _ _ h => by cases h⟩ H
  rw [htl, show m + (r.toArray.size - m) = r.toArray.size by omega] at this
  exact this
end Go.Proofs.Ytnfdefeafhepkaa.Wk
/- WeakSides: both functions. No condition. -/
namespace Go.Proofs.Ytnfdefeafhepkaa
set_option linter.unusedVariables false
set_option linter.unusedSimpArgs false
open Go.RowKit Mem Wk
theorem Wk.r_slLH {P : Program} {n : Nat} {O : List Nat} {w0 : World} {ll : List (Nat × Value)} {L : List (Nat × TypeId × Array Value)} {o : Oper} {x y z : Operand} (tb : Tb P) {t el sz : Nat} {g off len cap i h : Nat} {kd kd' : IntKind} (ho : o.op = .slice t x (some y) (some z) none) (hx : ev ll x = some (.slice (some ⟨g, off, none⟩) len cap)) (hy : ev ll y = some (.int kd (i : Int))) (hz : ev ll z = some (.int kd' (h : Int))) (ht : lkT tb.l t = some (el, sz)) (h1 : i ≤ h) (h2 : h ≤ cap) (hlt : i < cap) : Rn P n O w0 ll L o (.slice (some ⟨g, off + i * sz, none⟩) (h - i) (cap - i)) := fun a w hF hL => by
  have hu := (tb.slice ht).1
  have he : P.underlying t = some (.slice (P.elem t)) := by rw [hu]; simp [Program.elem, hu]
  have hel : P.elem t = el := by simp [Program.elem, hu]
  have hs := run_size (tb.slice ht).2 w
  simp only [execOp, ho, Option.map_none, Option.map_some, hF.eval hx, hF.eval hy, hF.eval hz, Sem.run_bind, run_sliceAt_slice w t _ _ _ _ he, run_slice_lh w t (some ⟨g, off, none⟩) len cap he kd kd' (i : Int) (h : Int) (by omega) (by omega) (by omega), hel, hs, Result.andThen_ok, Int.toNat_natCast, sliced_l hlt, Sem.run_pure]
attribute [local irreducible] Calls Wk.S Wk.C Wk.E Wk.X Wk.T Wk.Y Wk.anV Wk.orV Wk.andV Wk.shlV Wk.shrV Calm.wpLex CalmB.wpLex bfsN putP
end Go.Proofs.Ytnfdefeafhepkaa
