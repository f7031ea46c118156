import Derived.Test.YtnfdefeafhepkaaQI03
import Derived.Test.YtnfdefeafhepkaaQI04
import Derived.Test.YtnfdefeafhepkaaQI06
import Derived.Test.YtnfdefeafhepkaaQI07
import Derived.Test.YtnfdefeafhepkaaQI15
import Derived.Test.YtnfdefeafhepkaaQI19
set_option linter.unusedVariables false
set_option linter.unusedSimpArgs false
namespace Go.Proofs.Ytnfdefeafhepkaa
open Go.RowKit Mem Wk
attribute [local irreducible] Calls Wk.S Wk.C Wk.E Wk.X Wk.T Wk.Y Wk.anV Wk.orV Wk.andV Wk.shlV Wk.shrV Calm.wpLex CalmB.wpLex bfsN
theorem Kn.ne0 {O : List Nat} {w0 w : World} {L : List (Nat × TypeId × Array Value)} {b : Nat × TypeId × Array Value} {c : Nat × TypeId × Array Value} (h : Kn O w0 w (b :: L)) (hm : c ∈ L) : c.1 ≠ b.1 := fun e => by
  have := h.nodup
  simp only [List.map_cons, List.nodup_cons, List.mem_map, not_exists, not_and] at this
  exact this.1 c hm e
theorem Wk.BelowX.blk {g : Nat} {w w' : World} (h : BelowX g w w') {k : Nat} {ob : Obj} (hk : w.heap[k]? = some ob) (hne : k ≠ g) : w'.heap[k]? = some ob := by
  rw [h.block k (Array.getElem?_eq_some_iff.1 hk).1 hne]; exact hk
theorem yardClo_any (D : Nat → Int) (tab : Array Value) (T : TypeId) (g : Nat) (x y : Int) (w : World) (hT : GI .i16 1 D tab) (hD : ∀ j, 0 ≤ D j ∧ D j ≤ 101) (hg : w.heap[g]? = some (.cells tab T (0, 0))) (hx : 0 ≤ x ∧ x < 10) (hy : 0 ≤ y ∧ y < 10) :
    Calls Try.prog 144 #[.agg #[.int .i8 x, .int .i8 y], .pointer (some ⟨g, 0, none⟩)] w fun e w' => e = .returned (.bool (decide (0 ≤ D (ci ⟨x, y⟩) - 1))) ∧ Below w.heap.size w w' := by
  refine enter2 Try.func144 rfl rfl rfl (Own.start w) ?_
  repeat' (first | (refine s_g ?_; first | (refine s_k 8 rfl ?_; first | (refine' s_val rfl rfl rfl (r_ldv rfl rfl ?qm ?qv) ?_; (case qm => (exact zMm)); (case qv => (exact zLe))) | (refine' s_val rfl rfl rfl (r_ldo rfl rfl ?qw (by simp) ?qv) ?_; (case qw => assumption); (case qv => (exact zLe)))) | (refine s_k 1 rfl ?_; refine zsv (r_assign rfl rfl) ?_) | (refine s_k 13 rfl ?_; refine zsv (r_geq rfl rfl rfl) ?_) | (refine s_k 35 rfl ?_; (refine s_call Try.func142 (by kernel_rfl) rfl rfl rfl rfl rfl rfl (fun w hL => farAt_any D tab T g x y _ hT hD (Kn.old hL hg (by simp)) hx hy) ?_)) | (refine s_k 4 rfl ?_; first | refine s_boxA rfl rfl rfl rfl rfl fun blk => ?_ | refine s_box1 rfl rfl rfl rfl rfl rfl fun blk => ?_) | refine s_nil ?_) | (refine c_g ?_; first | refine c_seq ?_ | refine c_region ?_ | (refine c_gc ?_; first | refine c_cond1 rfl zTr ?_ | refine c_cond0 rfl zTr ?_) | refine c_block ?_ | refine c_skip ?_ | refine c_exit ?_ | refine c_ret ?_) | (refine e_g ?_; first | refine e_then ?_ | refine e_blkn ?_ | refine e_thenx ?_ | refine e_thenr ?_ | refine e_blkr ?_ | refine e_blkx ?_ | refine e_blky rfl ?_) | (refine e_ret1 (by simp) rfl (re_tmp rfl) fun w hL => ⟨rfl, hL.toBelow⟩))
def yardF (p : Nat → Int) (o c : Sp) : Bool := decide (0 ≤ strD p o (ci c) - 1)
def yardL (p : Nat → Int) (o : Sp) : List Sp := pasL p (yardF p o)
set_option maxRecDepth 100000 in
set_option maxHeartbeats 800000 in
theorem yard_any (p : Nat → Int) (cs : Array Value) (o : Sp) (w : World) (hp : Pv p cs) (ha : p 0 ≤ 10) (hb : p 1 ≤ 10) (hc : isC (p 0) (p 1) o.x o.y = true) :
    Calls Try.prog 135 #[.agg cs, .agg #[.int .i8 o.x, .int .i8 o.y]] w (NewS 66 2 (flS (yardL p o)) w) := by
  have hsz := hp.size
  obtain ⟨hW, hH, hW10, hH10⟩ := dims ha hb hc
  have hr : inR o := isC_range hc
  have hD := strD_val p (o := o) hr
  have hT : GI .i16 1 (strD p o) (giA .i16 1 (strD p o)) := giA_ok .i16 1 (strD p o)
  have hone : ∀ c ∈ [o], inR c := fun c hcm => isC_range (one_isC hc c hcm)
  have hl1 : [o].length ≤ 1048576 := by simp
  refine enter2 Try.func135 rfl rfl rfl (Own.start w) ?_
  repeat' (first | (refine s_g ?_; first | (refine s_k 8 rfl ?_; first | (refine' s_val rfl rfl rfl (r_ldv rfl rfl ?qm ?qv) ?_; (case qm => (exact zMm)); (case qv => (exact zLe))) | (refine' s_val rfl rfl rfl (r_ldo rfl rfl ?qw (by simp) ?qv) ?_; (case qw => assumption); (case qv => (exact zLe)))) | (refine s_k 1 rfl ?_; refine zsv (r_assign rfl rfl) ?_) | (refine s_k 35 rfl ?_; first | (refine s_call Try.func140 (by kernel_rfl) rfl rfl rfl rfl rfl rfl (fun w hL => far_any p cs [o] _ 0 1 _ hp hone hl1 (one_slA o (hL.at_ m0))) ?_) | (refine s_callN Try.func122 (by kernel_rfl) rfl rfl rfl rfl rfl rfl (fun w hL => cells_any p cs (p 0).toNat (p 1).toNat 144 _ [_] (yardF p o) w hp hW hH hW10 hH10 Try.func144 (by kernel_rfl) rfl (fun x y hx hy w' hb => yardClo_any (strD p o) _ _ _ _ _ w' hT hD (block_below0 (hL.at_ m0) hb) ⟨by omega, by omega⟩ ⟨by omega, by omega⟩)) fun g k cap cur hA => ?_)) | (refine s_k 4 rfl ?_; first | refine s_boxA rfl rfl rfl rfl rfl fun blk => ?_ | refine s_box1 rfl rfl rfl rfl rfl rfl fun blk => ?_) | (refine s_k 9 rfl ?_; (first | refine s_st1 tb rfl rfl rfl rfl rfl rfl rfl rfl ?_ | refine s_stA tb rfl rfl rfl rfl zSz rfl rfl ?_); (first | refine' st0 ?qs ?_ | refine' st1 ?qs ?_ | refine' st2 ?qs ?_ | refine' st3 ?qs ?_ | refine' st4 ?qs ?_ | refine' st5 ?qs ?_ | refine' st6 ?qs ?_ | refine' st7 ?qs ?_ | refine' st8 ?qs ?_ | refine' st9 ?qs ?_ | refine' st10 ?qs ?_ | refine' st11 ?qs ?_); (case qs => (first | exact setG (giA_ok _ _ _) zSt_ok.size | exact zSet))) | (refine s_k 3 rfl ?_; refine s_allocA (t := 186) rfl zStepsV rfl rfl rfl fun blk => ?_) | (refine s_k 18 rfl ?_; refine zsv (r_func rfl rfl rfl) ?_) | (refine s_k 6 rfl ?_; refine s_bsl rfl rfl (fun w => slSpot1 _ _ w) rfl rfl rfl fun blk => ?_) | refine s_nil ?_) | (refine c_g ?_; first | refine c_seq ?_ | refine c_region ?_ | (refine c_gc ?_; first | refine c_cond1 rfl zTr ?_ | refine c_cond0 rfl zTr ?_) | refine c_block ?_ | refine c_skip ?_ | refine c_exit ?_ | refine c_ret ?_) | (refine e_g ?_; first | refine e_then ?_ | refine e_blkn ?_ | refine e_thenx ?_ | refine e_thenr ?_ | refine e_blkr ?_ | refine e_blkx ?_ | refine e_blky rfl ?_) | (refine e_ret1 (by simp) rfl (re_tmp rfl) fun w hL => NewS.of hA hL m0))
theorem pasL_isC {p : Nat → Int} {f : Sp → Bool} {c : Sp} (ha : p 0 ≤ 10) (hb : p 1 ≤ 10) (h : c ∈ pasL p f) : isC (p 0) (p 1) c.x c.y = true ∧ f c = true := by
  have hm := cellL_mem h
  refine ⟨?_, hm.1⟩
  unfold isC inB
  simp
  omega
theorem yard_inR {p : Nat → Int} {o c : Sp} (ha : p 0 ≤ 10) (hb : p 1 ≤ 10) (h : c ∈ yardL p o) : inR c := isC_range (pasL_isC ha hb h).1
theorem inR_ok {c : Sp} (h : inR c) : c.ok := by unfold inR at h; unfold Sp.ok; omega
end Go.Proofs.Ytnfdefeafhepkaa
namespace Go.Proofs.Ytnfdefeafhepkaa
open Go.RowKit Mem Wk
attribute [local irreducible] Calls Wk.S Wk.C Wk.E Wk.X Wk.T Wk.Y Wk.anV Wk.orV Wk.andV Wk.shlV Wk.shrV Calm.wpLex CalmB.wpLex bfsN
def tbl (F : Sp → Bool) (j : Nat) : Bool := F (cellN 10 j)
def done (F : Sp → Bool) (y x : Nat) (j : Nat) : Bool := (decide (j / 10 < y) || (decide (j / 10 = y) && decide (j % 10 < x))) && tbl F j
end Go.Proofs.Ytnfdefeafhepkaa
namespace Go.Proofs.Ytnfdefeafhepkaa
open Go.RowKit Mem
attribute [local irreducible] Calm.wpLex
theorem Mem.Own.tail {B : Nat} {w0 w : World} {x : Nat × TypeId × Array Value} {L : List (Nat × TypeId × Array Value)} (h : Own B [] w0 w (x :: L)) : Own B [] w0 w L :=
  h.drop 1 (fun y hy => by
    have : y ∈ x :: L := List.mem_of_mem_take hy
    rcases h.low y this with e | e
    · exact e
    · cases e)
theorem block_below {w w' : World} {g : Nat} {o : Obj} (h : w.heap[g]? = some o) (hb : Below w.heap.size w w') : w'.heap[g]? = some o := by
  rw [hb.block g (Array.getElem?_eq_some_iff.1 h).1]; exact h
theorem Sl.take {w : World} {sz : Nat} {A : Option Addr} {n cap : Nat} {xs : List (List Value)} (h : Sl w sz (.slice A n cap) xs) (k : Nat) (hk : k ≤ xs.length) : Sl w sz (.slice A k cap) (xs.take k) := by
  obtain ⟨A', cap', hv, h1, h2, h3⟩ := h
  injection hv with e1 e2 e3
  subst e1; subst e3
  refine ⟨A, cap, ?_, by rw [List.length_take]; omega, h2, fun i c hc => ?_⟩
  · rw [List.length_take, Nat.min_eq_left hk]
  · rw [List.getElem?_take] at hc
    split at hc
    · exact h3 i c hc
    · cases hc

end Go.Proofs.Ytnfdefeafhepkaa
namespace Go.Proofs.Ytnfdefeafhepkaa
open Go.RowKit Mem
attribute [local irreducible] Calm.wpLex
theorem valid_small {p : Nat → Int} (h : validP p = true) : p 0 ≤ 10 ∧ p 1 ≤ 10 := by
  unfold validP inB at h
  simp at h
  omega
end Go.Proofs.Ytnfdefeafhepkaa
namespace Go.Proofs.Ytnfdefeafhepkaa
open Go.RowKit Mem Wk
attribute [local irreducible] Calls Wk.S Wk.C Wk.E Wk.X Wk.T Wk.Y Wk.anV Wk.orV Wk.andV Wk.shlV Wk.shrV Calm.wpLex CalmB.wpLex bfsN
theorem Kn.app {O : List Nat} {w0 w w' : World} {L N : List (Nat × TypeId × Array Value)} (hL : Kn O w0 w L) (hN : Kn [] w w' N) : Kn O w0 w' (N ++ L) := by
  have hge : ∀ x ∈ N, w.heap.size ≤ x.1 := fun x hx => (hN.low x hx).resolve_right (by simp)
  have hlt : ∀ x ∈ L, x.1 < w.heap.size := fun x hx => (Array.getElem?_eq_some_iff.1 (hL.has x hx)).1
  refine ⟨hN.os.trans hL.os, hN.tape.trans hL.tape, hN.output.trans hL.output, Nat.le_trans hL.size hN.size, hL.base, fun k hk hx => ?_, fun x hx => ?_, fun x hx => ?_, ?_⟩
  · rw [hN.keep k (Nat.lt_of_lt_of_le hk hL.size) (fun x hxn => hx x (List.mem_append_left _ hxn))]
    exact hL.keep k hk fun x hxl => hx x (List.mem_append_right _ hxl)
  · rcases List.mem_append.1 hx with hx | hx
    · exact .inl (Nat.le_trans hL.size (hge x hx))
    · exact hL.low x hx
  · rcases List.mem_append.1 hx with hx | hx
    · exact hN.has x hx
    · rw [hN.keep x.1 (hlt x hx) (fun y hy => by have := hge y hy; have := hlt x hx; omega)]
      exact hL.has x hx
  · rw [List.map_append, List.nodup_append]
    refine ⟨hN.nodup, hL.nodup, fun a ha b hb e => ?_⟩
    obtain ⟨x, hx, rfl⟩ := List.mem_map.1 ha
    obtain ⟨y, hy, rfl⟩ := List.mem_map.1 hb
    have := hge x hx; have := hlt y hy; omega
end Go.Proofs.Ytnfdefeafhepkaa
namespace Go.Proofs.Ytnfdefeafhepkaa
open Go.RowKit Mem Wk
attribute [local irreducible] Calls Wk.S Wk.C Wk.E Wk.X Wk.T Wk.Y Wk.anV Wk.orV Wk.andV Wk.shlV Wk.shrV Calm.wpLex CalmB.wpLex
def Mkd (f : Nat → Value) (c : Array Value) (m : Nat) : Prop := ∀ j, j < m → c[j]? = some (f j)
theorem Mkd.put {f : Nat → Value} {c : Array Value} {m i : Nat} {v : Value} (h : Mkd f c m) (hs : m < c.size) (hi : i = m) (hv : v = f m) : Mkd f (c.setIfInBounds i v) (m + 1) := fun j hj => by
  subst hi; subst hv
  by_cases e : j = i
  · subst e; simp [hs]
  · rw [Array.getElem?_setIfInBounds_ne (by omega)]; exact h j (by omega)
end Go.Proofs.Ytnfdefeafhepkaa
