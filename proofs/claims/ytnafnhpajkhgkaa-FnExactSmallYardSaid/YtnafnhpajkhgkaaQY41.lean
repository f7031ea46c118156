import Derived.Laws.BytesString
import Derived.Test.YtnafnhpajkhgkaaQY40
/- Texts that tell lists of cells; maps whose keys are texts. No condition but a length of at most 2^20. -/
namespace Go.Proofs.Ytnafnhpajkhgkaa
set_option linter.unusedVariables false
set_option linter.unusedSimpArgs false
open Go Go.RowKit Mem Wk

/-! ## the text of a list of cells -/
def kyL (X : List Sp) : List Int := X.flatMap fun c => [c.x, c.y]
def kyB (X : List Sp) : ByteArray := (kyL X).foldl (fun r n => r.push (UInt8.ofNat n.toNat)) ByteArray.empty
theorem kyL_snoc (X : List Sp) (c : Sp) : kyL (X ++ [c]) = kyL X ++ [c.x, c.y] := by unfold kyL; simp
theorem push_list : ∀ (l : List Int) (r : ByteArray), (l.foldl (fun r n => r.push (UInt8.ofNat n.toNat)) r).data.toList = r.data.toList ++ l.map fun n => UInt8.ofNat n.toNat
  | [], r => by simp
  | n :: l, r => by rw [List.foldl_cons, push_list l]; simp [ByteArray.push]
theorem byte_inj {a b : Int} (ha : 0 ≤ a ∧ a < 10) (hb : 0 ≤ b ∧ b < 10) (h : UInt8.ofNat a.toNat = UInt8.ofNat b.toNat) : a = b := by
  have h1 := congrArg UInt8.toNat h
  simp only [UInt8.toNat_ofNat'] at h1
  omega
theorem kyL_inj : ∀ {X Y : List Sp}, (∀ c ∈ X, inR c) → (∀ c ∈ Y, inR c) → ((kyL X).map fun n => UInt8.ofNat n.toNat) = ((kyL Y).map fun n => UInt8.ofNat n.toNat) → X = Y
  | [], [], _, _, _ => rfl
  | [], b :: Y, _, _, h => by simp [kyL] at h
  | a :: X, [], _, _, h => by simp [kyL] at h
  | a :: X, b :: Y, hX, hY, h => by
    have h' : ∀ (c : Sp) (Z : List Sp), kyL (c :: Z) = c.x :: c.y :: kyL Z := fun c Z => by unfold kyL; simp
    rw [h', h', List.map_cons, List.map_cons, List.map_cons, List.map_cons] at h
    injection h with h1 h
    injection h with h2 h
    have ha := hX a (by simp)
    have hb := hY b (by simp)
    unfold inR at ha hb
    have e1 := byte_inj ⟨ha.1, ha.2.1⟩ ⟨hb.1, hb.2.1⟩ h1
    have e2 := byte_inj ha.2.2 hb.2.2 h2
    have e3 := kyL_inj (fun c hc => hX c (by simp [hc])) (fun c hc => hY c (by simp [hc])) h
    rw [e3]
    obtain ⟨x, y⟩ := a; obtain ⟨u, v⟩ := b
    simp only at e1 e2
    rw [e1, e2]
theorem kyB_inj {X Y : List Sp} (hX : ∀ c ∈ X, inR c) (hY : ∀ c ∈ Y, inR c) (h : kyB X = kyB Y) : X = Y := by
  have h1 := congrArg (fun b : ByteArray => b.data.toList) h
  unfold kyB at h1
  simp only [push_list] at h1
  exact kyL_inj hX hY (by simpa using h1)

/-! ## maps with texts for keys, that say yes -/
def MapS (ob : Obj) (K : ByteArray → Prop) : Prop := ∃ es ck, ob = .map es ck ∧ (∀ e ∈ es.toList, (∃ t, e.key = .string t) ∧ e.val = .bool true) ∧ ∀ t, K t ↔ ∃ e ∈ es.toList, e.key = .string t
theorem MapS.new : MapS (.map #[] 0) (fun _ => False) := ⟨#[], 0, rfl, by simp, by simp⟩
theorem MapS.congr {ob : Obj} {K K' : ByteArray → Prop} (h : MapS ob K) (e : ∀ t, K t ↔ K' t) : MapS ob K' := by
  obtain ⟨es, ck, h1, h2, h3⟩ := h
  exact ⟨es, ck, h1, h2, fun t => (e t).symm.trans (h3 t)⟩
theorem ba_beq (s t : ByteArray) : (s == t) = decide (s = t) := by
  have h : (s == t) = (s.data == t.data) := rfl
  rw [h]
  by_cases e : s.data = t.data
  · have : s = t := by cases s; cases t; simp at e; rw [e]
    subst this; simp
  · have : s ≠ t := fun q => e (by rw [q])
    simp [e, this]
theorem findNow_str (s : ByteArray) : ∀ (es : List MapEntry) (i : Nat), (∀ e ∈ es, (∃ t, e.key = .string t) ∧ e.val = .bool true) → ((∃ e ∈ es, e.key = .string s) ∧ ∃ j, Instr.findNow .string (.string s) es i = some (some (j, .bool true))) ∨ ((¬ ∃ e ∈ es, e.key = .string s) ∧ Instr.findNow .string (.string s) es i = some none)
  | [], i, _ => .inr ⟨by simp, rfl⟩
  | e :: es, i, h => by
    obtain ⟨⟨t, ht⟩, hv⟩ := h e (by simp)
    unfold Instr.findNow
    rw [ht]
    simp only [Instr.sameNow]
    by_cases hst : s = t
    · subst hst
      exact .inl ⟨⟨e, by simp, ht⟩, i, by simp [hv, ba_beq]⟩
    · have hb : (s == t) = false := by rw [ba_beq]; simpa using hst
      rw [hb]
      rcases findNow_str s es (i + 1) (fun x hx => h x (by simp [hx])) with ⟨h1, j, h2⟩ | ⟨h1, h2⟩
      · obtain ⟨x, hx, hx2⟩ := h1
        exact .inl ⟨⟨x, by simp [hx], hx2⟩, j, h2⟩
      · refine .inr ⟨?_, h2⟩
        rintro ⟨x, hx, hx2⟩
        rcases List.mem_cons.1 hx with hx | hx
        · subst hx; rw [ht] at hx2; injection hx2 with hx2; exact hst hx2.symm
        · exact h1 ⟨x, hx, hx2⟩
theorem uStr : Try.prog.underlying 9 = some .string := by kernel_rfl
theorem uMapS : Try.prog.underlying 92 = some (.map 9 4) := by kernel_rfl
theorem zBoolF (w : World) : (zeroValue 4).run Try.prog w = .ok (.bool false) w := by kernel_rfl
theorem ck_str (b : Bool) (s : ByteArray) (w : World) : (Instr.checkKey b 10000 9 (.string s)).run Try.prog w = .ok () w := by
  rw [show (10000 : Nat) = 9999 + 1 by rfl]
  unfold Instr.checkKey
  simp only [run_underlying uStr, Sem.run_bind, Result.andThen_ok]
  rfl
theorem run_lookS {b : Nat} {ob : Obj} {K : ByteArray → Prop} {s : ByteArray} {v : Bool} (w : World) (hb : w.heap[b]? = some ob) (hm : MapS ob K) (hv : K s ↔ v = true) :
    (Instr.lookup 92 (.map (some b)) (.string s) false).run Try.prog w = .ok (.bool v) w := by
  obtain ⟨es, ck, rfl, hk, hf⟩ := hm
  unfold Instr.lookup Instr.findKey
  have hg : (getObj b).run Try.prog w = .ok (.map es ck) w := by simp [getObj, Sem.run, hb]
  simp only [run_underlying uMapS, run_underlying uStr, Sem.run_bind, Result.andThen_ok, hg, ck_str, Sem.run_pure]
  rcases findNow_str s es.toList 0 hk with ⟨h1, j, h2⟩ | ⟨h1, h2⟩
  · have : v = true := hv.1 ((hf s).2 h1)
    subst this
    rw [h2]; simp
  · have : v = false := by
      cases v
      · rfl
      · exact absurd ((hf s).1 (hv.2 rfl)) h1
    subst this
    rw [h2]; simp [zBoolF]
theorem run_updS {b : Nat} {ob : Obj} {K : ByteArray → Prop} {s : ByteArray} (w : World) (hb : w.heap[b]? = some ob) (hm : MapS ob K) (hn : ¬ K s) :
    ∃ o', (Instr.mapUpdate 92 (.map (some b)) (.string s) (.bool true)).run Try.prog w = .ok () (Go.ChangeMaps.setBlock w b o') ∧ MapS o' (fun t => K t ∨ t = s) := by
  obtain ⟨es, ck, rfl, hk, hf⟩ := hm
  have hg : (getObj b).run Try.prog w = .ok (.map es ck) w := by simp [getObj, Sem.run, hb]
  have hset : ∀ o', (setObj b o').run Try.prog w = .ok () (Go.ChangeMaps.setBlock w b o') := fun o' => by simp only [setObj, Sem.run, Go.ChangeMaps.setBlock, hb]
  unfold Instr.mapUpdate Instr.findKey
  simp only [run_underlying uMapS, run_underlying uStr, Sem.run_bind, Result.andThen_ok, hg, ck_str, Sem.run_pure]
  rcases findNow_str s es.toList 0 hk with ⟨h1, j, h2⟩ | ⟨h1, h2⟩
  · exact absurd ((hf s).2 h1) hn
  · rw [h2]
    refine ⟨_, hset _, _, _, rfl, fun x hx => ?_, fun t => ?_⟩
    · simp at hx
      rcases hx with hx | rfl
      · exact hk x (by simpa using hx)
      · exact ⟨⟨s, rfl⟩, rfl⟩
    · show K t ∨ t = s ↔ _
      rw [hf t]
      constructor
      · rintro (⟨e, he, h⟩ | h)
        · exact ⟨e, by simp [Array.mem_toList_iff.1 he], h⟩
        · subst h; exact ⟨⟨.string t, .bool true, ck⟩, by simp, rfl⟩
      · rintro ⟨e, he, h⟩
        simp at he
        rcases he with he | he
        · exact .inl ⟨e, by simpa using he, h⟩
        · subst he; injection h with h; exact .inr h.symm
namespace Wk
variable {n : Nat} {O : List Nat} {w0 : World} {l : List (Nat × Value)} {L : List (Nat × TypeId × Array Value)} {Q : Exit → Act → World → Prop} {ops : Array Oper} {o : Oper} {rest : List Oper} {x y z : Operand}
theorem r_lkpS {b : Nat} {ob : Obj} {K : ByteArray → Prop} {s : ByteArray} {v : Bool} (ho : o.op = .lookup 92 x y false) (hx : ev l x = some (.map (some b))) (hy : ev l y = some (.string s)) (hb : w0.heap[b]? = some ob) (hO : b ∉ O) (hm : MapS ob K) (hv : K s ↔ v = true) : Rn Try.prog n O w0 l L o (.bool v) := fun a w hF hL => by
  have hlt : b < w0.heap.size := (Array.getElem?_eq_some_iff.1 hb).1
  have hbw : w.heap[b]? = some ob := by
    rw [← hb]; exact hL.keep b hlt fun k hk e => by
      rcases hL.low k hk with h1 | h1
      · omega
      · exact hO (e ▸ h1)
  simp [execOp, ho, hF.eval hx, hF.eval hy, run_lookS w hbw hm hv]
theorem s_mapUS {b : Nat} {ob : Obj} {K : ByteArray → Prop} {s : ByteArray} (ho : o.op = .mapUpdate 92 x y z) (hx : ev l x = some (.map (some b))) (hy : ev l y = some (.string s)) (hz : ev l z = some (.bool true)) (hb : w0.heap[b]? = some ob) (hO : b ∉ O) (hm : MapS ob K) (hns : ¬ K s) (hg : o.guard = none) (hd : o.dst = none)
    (h : ∀ ob', MapS ob' (fun t => K t ∨ t = s) → S Try.prog ops Q n O (Go.ChangeMaps.setBlock w0 b ob') rest l L) : S Try.prog ops Q n O w0 (o :: rest) l L := fun a w hF hL => by
  have hlt : b < w0.heap.size := (Array.getElem?_eq_some_iff.1 hb).1
  have hnl : ∀ k ∈ L, k.1 ≠ b := fun k hk e => by
    rcases hL.low k hk with h1 | h1
    · omega
    · exact hO (e ▸ h1)
  have hbw : w.heap[b]? = some ob := by rw [← hb]; exact hL.keep b hlt hnl
  obtain ⟨o', hr, hm'⟩ := run_updS w hbw hm hns
  have hr' : (execOp a.eval o).run Try.prog w = .ok .skip (Go.ChangeMaps.setBlock w b o') := by
    simp [execOp, ho, hF.eval hx, hF.eval hy, hF.eval hz, hr]
  refine wpl_skip hg hr' ?_
  rw [hd]
  refine h o' hm' _ _ hF ⟨hL.os, hL.tape, hL.output, by simpa [Go.ChangeMaps.setBlock] using hL.size, by simp [Go.ChangeMaps.setBlock], fun j hj hne => ?_, fun k hk => ?_, fun k hk => ?_, hL.nodup⟩
  · simp only [Go.ChangeMaps.setBlock, Array.size_setIfInBounds] at hj ⊢
    by_cases e : b = j
    · subst e
      have hlw : b < w.heap.size := Nat.lt_of_lt_of_le hlt hL.size
      simp [hlt, hlw]
    · rw [Array.getElem?_setIfInBounds_ne e, Array.getElem?_setIfInBounds_ne e]
      exact hL.keep j hj hne
  · simpa [Go.ChangeMaps.setBlock] using hL.low k hk
  · simp only [Go.ChangeMaps.setBlock]
    rw [Array.getElem?_setIfInBounds_ne (fun e => hnl k hk e.symm)]
    exact hL.has k hk
theorem r_bytesStr {s t : TypeId} {g len cap : Nat} {T e : TypeId} {cur : Array Value} {ns : List Int} {bs : ByteArray} (ho : o.op = .convert s t x) (hx : ev l x = some (.slice (some ⟨g, 0, none⟩) len cap)) (hm : (g, T, cur) ∈ L) (hs : Try.prog.underlying s = some (.slice e)) (he : Try.prog.underlying e = some (.int .u8)) (hd : Try.prog.underlying t = some .string) (hA : Ap 1 len cap cur (ns.map (Value.int .u8))) (hbs : ns.foldl (fun r n => r.push (UInt8.ofNat n.toNat)) ByteArray.empty = bs) : Rn Try.prog n O w0 l L o (.string bs) := fun a w hF hL => by
  have hg := hL.has _ hm
  have hlen : ns.length = len := by have := hA.len; simpa using this
  have hl : (loadCells ⟨g, 0, none⟩ len).run Try.prog w = .ok (ns.map (Value.int .u8)).toArray w := by
    have := run_loadCells_list (P := Try.prog) w ⟨g, 0, none⟩ (ns.map (Value.int .u8)) (fun j v hv => by
      rw [add_lit0, Nat.zero_add, cell_of_row w g j cur T (0, 0) hg]
      rw [← hA.take, List.getElem?_take] at hv
      split at hv
      · simpa using hv
      · cases hv)
    rw [List.length_map, hlen] at this
    exact this
  have h1 := run_bytesToString (P := Try.prog) w ⟨g, 0, none⟩ len cap ns hl
  rw [hbs] at h1
  simp [execOp, ho, hF.eval hx, run_convert_bytes_string w s t e _ _ _ hs he hd, h1]
end Wk
attribute [local irreducible] Calls Wk.S Wk.C Wk.E Wk.X Wk.T Wk.andV Wk.shrV Calm.wpLex bfsN
theorem uSlU8 : Try.prog.underlying 130 = some (.slice 5) := by kernel_rfl
theorem uU8 : Try.prog.underlying 5 = some (.int .u8) := by kernel_rfl
theorem iU8 : (Try.prog.info? 5).map (fun i => (i.zero, i.size, i.bytes)) = some (some (.int .u8 0), 1, 1) := by kernel_rfl
theorem slU80 (w : World) : (Instr.buildSlice 130 0 #[]).run Try.prog w = .ok (.slice (some ⟨w.heap.size, 0, none⟩) 0 0) (w.alloc (.cells #[] 5 (0, 0))) := by kernel_rfl
theorem slU82 (a b : Int) (w : World) : (Instr.buildSlice 130 2 #[(0, .int .u8 a), (1, .int .u8 b)]).run Try.prog w = .ok (.slice (some ⟨w.heap.size, 0, none⟩) 2 2) (w.alloc (.cells #[.int .u8 a, .int .u8 b] 5 (0, 0))) := by kernel_rfl
set_option maxRecDepth 100000 in
set_option maxHeartbeats 1600000 in
theorem keyOf_any (X : List Sp) (A : Option Addr) (cap : Nat) (w : World) (hS : SlA [] w 2 A (X.map Sp.cells)) (hn : X.length ≤ 1048576) (hin : ∀ c ∈ X, inR c) :
    Calls Try.prog 52 #[.slice A X.length cap] w fun e w' => e = .returned (.string (kyB X)) ∧ Below w.heap.size w w' := by
  refine enter1 Try.func52 rfl rfl rfl (Own.start w) ?_
  repeat' (first
    | (refine s_g ?_; first
      | (refine s_k 0 rfl ?_; refine s_val rfl rfl rfl (r_move rfl rfl) ?_)
      | (refine s_k 23 rfl ?_; first | refine s_val rfl rfl rfl (r_field tb rfl rfl rfl) ?_ | refine s_val rfl rfl rfl (r_fieldS tb rfl rfl rfl) ?_)
      | (refine s_k 8 rfl ?_; first | (refine' s_val rfl rfl rfl (r_ldv rfl rfl ?qm ?qv) ?_; (case qm => (exact zMm)); (case qv => (exact zLe))) | (refine' s_val rfl rfl rfl (r_ldo rfl rfl ?qw (by simp) ?qv) ?_; (case qw => assumption); (case qv => (exact zLe))))
      | (refine s_k 1 rfl ?_; refine s_val rfl rfl rfl (r_assign rfl rfl) ?_)
      | (refine s_k 13 rfl ?_; first | refine s_val rfl rfl rfl (r_lss rfl rfl rfl) ?_ | refine s_val rfl rfl rfl (r_add rfl rfl rfl (wrap_in (by simp only [lo, hi]; omega))) ?_)
      | (refine s_k 15 rfl ?_; refine s_val rfl rfl rfl (r_conv tb rfl rfl rfl rfl (wrap_in (by simp only [lo, hi]; omega))) ?_)
      | (refine s_k 25 rfl ?_; first | refine s_val rfl rfl rfl (r_ixN tb rfl rfl rfl rfl (by omega)) ?_ | refine s_val rfl rfl rfl (r_ixA tb rfl rfl rfl rfl (by omega) (by omega)) ?_ | refine s_val rfl rfl rfl (r_ixO tb rfl rfl rfl rfl (by omega)) ?_)
      | (refine s_k 9 rfl ?_; (first | refine s_st1 tb rfl rfl rfl rfl rfl rfl rfl rfl ?_ | refine s_stA tb rfl rfl rfl rfl (by first | rfl | assumption | (apply Pv.size; assumption)) rfl rfl ?_); (first | refine' st0 ?qs ?_ | refine' st1 ?qs ?_ | refine' st2 ?qs ?_ | refine' st3 ?qs ?_ | refine' st4 ?qs ?_ | refine' st5 ?qs ?_ | refine' st6 ?qs ?_ | refine' st7 ?qs ?_ | refine' st8 ?qs ?_ | refine' st9 ?qs ?_ | refine' st10 ?qs ?_ | refine' st11 ?qs ?_); (case qs => (first | exact zSet)))
      | (refine s_k 36 rfl ?_; refine s_val rfl rfl rfl (r_len tb rfl rfl rfl) ?_)
      | (refine s_k 6 rfl ?_; refine s_bsl rfl rfl (fun w => slU80 w) rfl rfl rfl fun blk => ?_)
      | refine s_nil ?_)
    | (refine c_g ?_; first | refine c_seq ?_ | refine c_region ?_ | (refine c_gc ?_; first | refine c_cond1 rfl zTr ?_ | refine c_cond0 rfl zTr ?_ | refine z_condd1 rfl ?_ | refine z_condd0 rfl ?_ | refine z_conddn1 rfl ?_ | refine z_conddn0 rfl ?_ | refine c_condd rfl (fun hc => ?_) (fun hc => ?_) | refine c_conddn rfl (fun hc => ?_) (fun hc => ?_) | refine c_condn rfl (fun hc => ?_) (fun hc => ?_) | refine c_cond rfl (fun hc => ?_) (fun hc => ?_)) | refine c_block ?_ | refine c_skip ?_ | refine c_exit ?_ | refine c_ret ?_)
    | (refine e_g ?_; first | refine e_then ?_ | refine e_blkn ?_ | refine e_thenx ?_ | refine e_thenr ?_ | refine e_blkr ?_ | refine e_blkx ?_ | refine e_blky rfl ?_))
  refine c_loop (ι := Nat × Nat × Nat × Array Value) (fun i => X.length - i.1) (fun i => i.1 ≤ X.length ∧ Ap 1 (i.1 * 2) i.2.2.1 i.2.2.2 ((kyL (X.take i.1)).map (Value.int .u8))) (fun i => [(9, .int .i64 (i.1 : Int)), (8, .int .i64 (X.length : Int)), (7, .slice A X.length cap), (3, .slice (some ⟨i.2.1, 0, none⟩) (i.1 * 2) i.2.2.1)]) (fun i => [(i.2.1, 5, i.2.2.2)]) (0, blk, 0, #[]) ⟨by simp, Ap.nil 1⟩ ?hs rfl ?_
  case hs => (repeat' (first | exact sub_nil | refine sub_cons rfl ?_ | refine sub_cons' rfl (by simp) ?_))
  rintro ⟨i, g, capb, cur⟩ ⟨hle, hA⟩
  simp only at hle hA ⊢
  by_cases hlt : i < X.length
  · have hx : X[i]? = some X[i] := List.getElem?_eq_getElem hlt
    have hxa : (X.map Sp.cells)[i]? = some X[i].cells := by simp [hx]
    have hka : i < (X.map Sp.cells).length := by simpa using hlt
    have hcR := hin _ (List.getElem_mem hlt)
    have htk : kyL (X.take (i + 1)) = kyL (X.take i) ++ [X[i].x, X[i].y] := by rw [List.take_add_one, hx]; exact kyL_snoc _ _
    generalize X[i] = c at *
    unfold inR at hcR
    repeat' (first
      | (refine s_g ?_; first
      | (refine s_k 0 rfl ?_; refine s_val rfl rfl rfl (r_move rfl rfl) ?_)
      | (refine s_k 23 rfl ?_; first | refine s_val rfl rfl rfl (r_field tb rfl rfl rfl) ?_ | refine s_val rfl rfl rfl (r_fieldS tb rfl rfl rfl) ?_)
      | (refine s_k 8 rfl ?_; first | refine s_val rfl rfl rfl (r_ldS tb rfl hS rfl hxa rfl) ?_ | (refine' s_val rfl rfl rfl (r_ldv rfl rfl ?qm ?qv) ?_; (case qm => (exact zMm)); (case qv => (exact zLe))) | (refine' s_val rfl rfl rfl (r_ldo rfl rfl ?qw (by simp) ?qv) ?_; (case qw => assumption); (case qv => (exact zLe))))
      | (refine s_k 1 rfl ?_; refine s_val rfl rfl rfl (r_assign rfl rfl) ?_)
      | (refine s_k 13 rfl ?_; first | refine s_val rfl rfl rfl (r_lss rfl rfl rfl) ?_ | refine s_val rfl rfl rfl (r_add rfl rfl rfl (wrap_in (by simp only [lo, hi]; omega))) ?_)
      | (refine s_k 15 rfl ?_; refine s_val rfl rfl rfl (r_conv tb rfl rfl rfl rfl (wrap_in (by simp only [lo, hi]; omega))) ?_)
      | (refine s_k 25 rfl ?_; first | refine s_val rfl rfl rfl (r_ixS tb rfl hS rfl rfl rfl (by simp) hka) ?_ | refine s_val rfl rfl rfl (r_ixN tb rfl rfl rfl rfl (by omega)) ?_ | refine s_val rfl rfl rfl (r_ixA tb rfl rfl rfl rfl (by omega) (by omega)) ?_ | refine s_val rfl rfl rfl (r_ixO tb rfl rfl rfl rfl (by omega)) ?_)
      | (refine s_k 9 rfl ?_; (first | refine s_st1 tb rfl rfl rfl rfl rfl rfl rfl rfl ?_ | refine s_stA tb rfl rfl rfl rfl (by first | rfl | assumption | (apply Pv.size; assumption)) rfl rfl ?_); (first | refine' st0 ?qs ?_ | refine' st1 ?qs ?_ | refine' st2 ?qs ?_ | refine' st3 ?qs ?_ | refine' st4 ?qs ?_ | refine' st5 ?qs ?_ | refine' st6 ?qs ?_ | refine' st7 ?qs ?_ | refine' st8 ?qs ?_ | refine' st9 ?qs ?_ | refine' st10 ?qs ?_ | refine' st11 ?qs ?_); (case qs => (first | exact set_whole (vs := c.cells.toArray) rfl (by simp [Sp.cells, Value.oneCell']) | exact zSet)))
      | (refine s_k 3 rfl ?_; refine s_allocA (t := 52) rfl zImplSpot rfl rfl rfl fun blk => ?_)
      | (refine s_k 36 rfl ?_; first | refine s_app1 (c2 := [_, _]) hA rfl rfl rfl uSlU8 iU8 rfl (by omega) (by simp) (by simp) rfl (by simp [Value.oneCell']) (by unfold maxLen; omega) (by omega) rfl rfl rfl fun g' cap' cur' hA' => ?_ | refine s_val rfl rfl rfl (r_len tb rfl rfl rfl) ?_)
      | (refine s_k 6 rfl ?_; refine s_bsl rfl rfl (fun w => slU82 _ _ w) rfl rfl rfl fun blk => ?_)
      | refine s_nil ?_)
      | (refine c_g ?_; first | refine c_seq ?_ | refine c_region ?_ | (refine c_gc ?_; first | refine c_cond1 rfl zTr ?_ | refine c_cond0 rfl zTr ?_ | refine z_condd1 rfl ?_ | refine z_condd0 rfl ?_ | refine z_conddn1 rfl ?_ | refine z_conddn0 rfl ?_ | refine c_condd rfl (fun hc => ?_) (fun hc => ?_) | refine c_conddn rfl (fun hc => ?_) (fun hc => ?_) | refine c_condn rfl (fun hc => ?_) (fun hc => ?_) | refine c_cond rfl (fun hc => ?_) (fun hc => ?_)) | refine c_block ?_ | refine c_skip ?_ | refine c_exit ?_ | refine c_ret ?_)
      | (refine e_g ?_; first | refine e_then ?_ | refine e_blkn ?_ | refine e_thenx ?_ | refine e_thenr ?_ | refine e_blkr ?_ | refine e_blkx ?_ | refine e_blky rfl ?_)
      | (refine e_drop0 (e_round (i + 1, g', cap', cur') (by simp; omega) ⟨by simp; omega, by simp only [htk]; rw [Nat.succ_mul]; simpa using hA'⟩ ?_ rfl); (repeat' (first | exact sub_nil | refine sub_cons rfl ?_ | refine sub_cons' rfl (by simp; omega) ?_))))
  · obtain rfl : i = X.length := by omega
    rw [List.take_length] at hA
    repeat' (first
      | (refine s_g ?_; first
      | (refine s_k 0 rfl ?_; refine s_val rfl rfl rfl (r_move rfl rfl) ?_)
      | (refine s_k 23 rfl ?_; first | refine s_val rfl rfl rfl (r_field tb rfl rfl rfl) ?_ | refine s_val rfl rfl rfl (r_fieldS tb rfl rfl rfl) ?_)
      | (refine s_k 8 rfl ?_; first | (refine' s_val rfl rfl rfl (r_ldv rfl rfl ?qm ?qv) ?_; (case qm => (exact zMm)); (case qv => (exact zLe))) | (refine' s_val rfl rfl rfl (r_ldo rfl rfl ?qw (by simp) ?qv) ?_; (case qw => assumption); (case qv => (exact zLe))))
      | (refine s_k 1 rfl ?_; refine s_val rfl rfl rfl (r_assign rfl rfl) ?_)
      | (refine s_k 13 rfl ?_; first | refine s_val rfl rfl rfl (r_lss rfl rfl rfl) ?_ | refine s_val rfl rfl rfl (r_add rfl rfl rfl (wrap_in (by simp only [lo, hi]; omega))) ?_)
      | (refine s_k 15 rfl ?_; first | refine s_val rfl rfl rfl (r_bytesStr rfl rfl m0 uSlU8 uU8 uStr hA rfl) ?_ | refine s_val rfl rfl rfl (r_conv tb rfl rfl rfl rfl (wrap_in (by simp only [lo, hi]; omega))) ?_)
      | (refine s_k 25 rfl ?_; first | refine s_val rfl rfl rfl (r_ixN tb rfl rfl rfl rfl (by omega)) ?_ | refine s_val rfl rfl rfl (r_ixA tb rfl rfl rfl rfl (by omega) (by omega)) ?_ | refine s_val rfl rfl rfl (r_ixO tb rfl rfl rfl rfl (by omega)) ?_)
      | (refine s_k 9 rfl ?_; (first | refine s_st1 tb rfl rfl rfl rfl rfl rfl rfl rfl ?_ | refine s_stA tb rfl rfl rfl rfl (by first | rfl | assumption | (apply Pv.size; assumption)) rfl rfl ?_); (first | refine' st0 ?qs ?_ | refine' st1 ?qs ?_ | refine' st2 ?qs ?_ | refine' st3 ?qs ?_ | refine' st4 ?qs ?_ | refine' st5 ?qs ?_ | refine' st6 ?qs ?_ | refine' st7 ?qs ?_ | refine' st8 ?qs ?_ | refine' st9 ?qs ?_ | refine' st10 ?qs ?_ | refine' st11 ?qs ?_); (case qs => (first | exact zSet)))
      | (refine s_k 36 rfl ?_; refine s_val rfl rfl rfl (r_len tb rfl rfl rfl) ?_)
      | refine s_nil ?_)
      | (refine c_g ?_; first | refine c_seq ?_ | refine c_region ?_ | (refine c_gc ?_; first | refine c_cond1 rfl zTr ?_ | refine c_cond0 rfl zTr ?_ | refine z_condd1 rfl ?_ | refine z_condd0 rfl ?_ | refine z_conddn1 rfl ?_ | refine z_conddn0 rfl ?_ | refine c_condd rfl (fun hc => ?_) (fun hc => ?_) | refine c_conddn rfl (fun hc => ?_) (fun hc => ?_) | refine c_condn rfl (fun hc => ?_) (fun hc => ?_) | refine c_cond rfl (fun hc => ?_) (fun hc => ?_)) | refine c_block ?_ | refine c_skip ?_ | refine c_exit ?_ | refine c_ret ?_)
      | (refine e_g ?_; first | refine e_then ?_ | refine e_blkn ?_ | refine e_thenx ?_ | refine e_thenr ?_ | refine e_blkr ?_ | refine e_blkx ?_ | refine e_blky rfl ?_)
      | (refine e_ret1 (by simp) rfl (re_tmp rfl) fun w hL => ⟨rfl, hL.toBelow⟩))
end Go.Proofs.Ytnafnhpajkhgkaa
