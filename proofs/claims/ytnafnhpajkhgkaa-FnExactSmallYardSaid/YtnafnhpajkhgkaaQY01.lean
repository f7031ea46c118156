import Derived.Handy
import Derived.Laws.CopyRow
import Derived.OrdersHeld
import Derived.WalkKit
import Derived.Test.YtnafnhpajkhgkaaQY00
/- Own memory: which blocks a walk has made and what they hold, as one hypothesis; the laws that carry it through each operation. Plain theorems; no condition. -/
namespace Go.Proofs.Ytnafnhpajkhgkaa.Mem
set_option linter.unusedVariables false
set_option linter.unusedSimpArgs false
open Go Go.RowKit

/-- The blocks of L hold what is told; those of O stood before; all other blocks below B are as they were. -/
structure Own (B : Nat) (O : List Nat) (w0 w : World) (L : List (Nat × TypeId × Array Value)) : Prop where
  os : w.os = w0.os
  tape : w.tape = w0.tape
  output : w.output = w0.output
  size : w0.heap.size ≤ w.heap.size
  base : B ≤ w0.heap.size
  keep : ∀ k, k < B → (∀ x ∈ L, x.1 ≠ k) → w.heap[k]? = w0.heap[k]?
  low : ∀ x ∈ L, B ≤ x.1 ∨ x.1 ∈ O
  has : ∀ x ∈ L, w.heap[x.1]? = some (.cells x.2.2 x.2.1 (0, 0))
  nodup : (L.map (·.1)).Nodup

section
variable {B : Nat} {O : List Nat} {w0 w w' : World} {L : List (Nat × TypeId × Array Value)}
theorem Own.start (w : World) : Own w.heap.size [] w w [] := ⟨rfl, rfl, rfl, Nat.le_refl _, Nat.le_refl _, fun _ _ _ => rfl, by simp, by simp, by simp⟩
theorem Own.startAt (w : World) {b : Nat} {T : TypeId} {cs : Array Value} (h : w.heap[b]? = some (.cells cs T (0, 0))) : Own w.heap.size [b] w w [(b, T, cs)] :=
  ⟨rfl, rfl, rfl, Nat.le_refl _, Nat.le_refl _, fun _ _ _ => rfl, by simp, by simp [h], by simp⟩
theorem Own.new (h : Own B O w0 w L) (T : TypeId) (cs : Array Value) : Own B O w0 (w.alloc (.cells cs T (0, 0))) ((w.heap.size, T, cs) :: L) := by
  have hlt : ∀ x ∈ L, x.1 < w.heap.size := fun x hx => (Array.getElem?_eq_some_iff.1 (h.has x hx)).1
  refine ⟨h.os, h.tape, h.output, by have := h.size; simp; omega, h.base, fun k hk hx => ?_, fun x hx => ?_, fun x hx => ?_, ?_⟩
  · rw [Below.heap_alloc _ _ _ (by have := h.size; have := h.base; omega)]
    exact h.keep k hk fun x hx' => hx x (List.mem_cons_of_mem _ hx')
  · rcases List.mem_cons.1 hx with rfl | hx
    · left; have := h.size; have := h.base; show B ≤ w.heap.size; omega
    · exact h.low x hx
  · rcases List.mem_cons.1 hx with rfl | hx
    · exact heap_alloc_new w _
    · rw [Below.heap_alloc _ _ _ (hlt x hx)]; exact h.has x hx
  · simp only [List.map_cons, List.nodup_cons, List.mem_map, not_exists, not_and]
    exact ⟨fun x hx e => by have := hlt x hx; omega, h.nodup⟩
theorem Own.ext (h : Own B O w0 w L) (hb : Below w.heap.size w w') : Own B O w0 w' L :=
  ⟨hb.os.trans h.os, hb.tape.trans h.tape, hb.output.trans h.output, Nat.le_trans h.size hb.size, h.base,
   fun k hk hx => by rw [hb.block k (by have := h.size; have := h.base; omega)]; exact h.keep k hk hx, h.low,
   fun x hx => by rw [hb.block x.1 (Array.getElem?_eq_some_iff.1 (h.has x hx)).1]; exact h.has x hx, h.nodup⟩
theorem Own.drew (h : Own B O w0 w L) : Own B O w0 w.drew L := ⟨h.os, h.tape, h.output, h.size, h.base, h.keep, h.low, h.has, h.nodup⟩
theorem Own.drewN (h : Own B O w0 w L) (n : Nat) : Own B O w0 (w.drewN n) L := ⟨h.os, h.tape, h.output, h.size, h.base, h.keep, h.low, h.has, h.nodup⟩
theorem Own.at_ (h : Own B O w0 w L) {i g : Nat} {T : TypeId} {cs : Array Value} (hi : L[i]? = some (g, T, cs)) : w.heap[g]? = some (.cells cs T (0, 0)) :=
  h.has (g, T, cs) (List.mem_of_getElem? hi)
/-- A block of L is written. -/
theorem Own.put (h : Own B O w0 w L) {i g : Nat} {T : TypeId} {cs : Array Value} (hi : L[i]? = some (g, T, cs)) (cs' : Array Value) : Own B O w0 (w.setRow g cs') (L.set i (g, T, cs')) := by
  have hlt : i < L.length := (List.getElem?_eq_some_iff.1 hi).1
  have hgi : L[i] = (g, T, cs) := (List.getElem?_eq_some_iff.1 hi).2
  have hmap : (L.set i (g, T, cs')).map (fun x => x.1) = L.map (fun x => x.1) := by
    rw [List.map_set]
    have this : (L.map (fun x => x.1))[i]'(by simpa using hlt) = g := by simp [hgi]
    have e2 : (L.map (fun x => x.1)).set i ((L.map (fun x => x.1))[i]'(by simpa using hlt)) = L.map (fun x => x.1) := List.set_getElem_self _
    rw [this] at e2
    exact e2
  have hmem : ∀ x, x ∈ L.set i (g, T, cs') → x = (g, T, cs') ∨ (x ∈ L ∧ x.1 ≠ g) := by
    intro x hx
    obtain ⟨j, hj, hxj⟩ := List.mem_iff_getElem.1 hx
    have hjl : j < L.length := by simpa using hj
    rw [List.getElem_set] at hxj
    by_cases hij : i = j
    · rw [if_pos hij] at hxj; exact .inl hxj.symm
    · rw [if_neg hij] at hxj
      refine .inr ⟨hxj ▸ List.getElem_mem hjl, fun e => ?_⟩
      have hm0 : i < (L.map (·.1)).length := by simpa using hlt
      have hm1 : j < (L.map (·.1)).length := by simpa using hjl
      have h1 : i = j := (List.getElem_inj (h₀ := hm0) (h₁ := hm1) h.nodup).1 (by simp [hgi, hxj, e])
      exact hij h1
  refine ⟨h.os, h.tape, h.output, by simpa using h.size, h.base, fun k hk hx => ?_, fun x hx => ?_, fun x hx => ?_, by rw [hmap]; exact h.nodup⟩
  · have hkg : k ≠ g := fun e => hx (g, T, cs') (List.mem_iff_getElem.2 ⟨i, by simpa using hlt, by simp⟩) (by simp [e])
    rw [setRow_other w g k cs' hkg]
    refine h.keep k hk fun x hxL e => ?_
    by_cases hxg : x.1 = g
    · exact hkg (by omega)
    · obtain ⟨j, hj, hxj⟩ := List.mem_iff_getElem.1 hxL
      have hij : i ≠ j := fun e2 => by subst e2; rw [hgi] at hxj; exact hxg (by rw [← hxj])
      exact hx x (List.mem_iff_getElem.2 ⟨j, by simpa using hj, by rw [List.getElem_set, if_neg hij]; exact hxj⟩) e
  · rcases hmem x hx with rfl | ⟨hx, _⟩
    · exact h.low (g, T, cs) (List.mem_of_getElem? hi)
    · exact h.low x hx
  · rcases hmem x hx with rfl | ⟨hx, hne⟩
    · exact setRow_heap w g cs cs' T (0, 0) (h.at_ hi)
    · rw [setRow_other w g x.1 cs' hne]; exact h.has x hx
/-- Nothing old was tracked: below B all is as it was. -/
theorem Own.toBelow (h : Own B [] w0 w L) : Below B w0 w := ⟨h.os, h.tape, h.output, h.size, fun k hk => h.keep k hk fun x hx e => by
  rcases h.low x hx with h1 | h1
  · omega
  · cases h1⟩
/-- One old block was tracked. -/
theorem Own.others {b : Nat} (h : Own B [b] w0 w L) (k : Nat) (hk : k < B) (hb : k ≠ b) : w.heap[k]? = w0.heap[k]? := h.keep k hk fun x hx e => by
  rcases h.low x hx with h1 | h1
  · omega
  · simp at h1; omega
theorem Own.drop (h : Own B O w0 w L) (n : Nat) (hn : ∀ x ∈ L.take n, B ≤ x.1) : Own B O w0 w (L.drop n) :=
  ⟨h.os, h.tape, h.output, h.size, h.base, fun k hk hx => h.keep k hk fun x hxL => by
      rw [← List.take_append_drop n L] at hxL
      rcases List.mem_append.1 hxL with h1 | h1
      · have := hn x h1; omega
      · exact hx x h1,
    fun x hx => h.low x (List.mem_of_mem_drop hx), fun x hx => h.has x (List.mem_of_mem_drop hx), by rw [List.map_drop]; exact h.nodup.sublist (List.drop_sublist _ _)⟩
/-- Cells that stood before, in blocks that are not tracked. -/
theorem Own.old (h : Own B O w0 w L) {a : Addr} (ha : a.block < B) (hO : a.block ∉ O) : w.cell? a = w0.cell? a :=
  World.cell?_of_block (w := w0) (h.keep a.block ha fun x hx e => by
    rcases h.low x hx with h1 | h1
    · omega
    · exact hO (e ▸ h1))

variable {P : Program} {ops : Array Oper} {rest : List Oper} {o : Oper} {a : Act} {Q : Exit → Act → World → Prop}
theorem gate_load {ty : TypeId} {x : Operand} (_h : o.op = .load ty x) (h : wpList P ops Q (o :: rest) a w) : wpList P ops Q (o :: rest) a w := h
theorem gate_store {ty : TypeId} {x y : Operand} (_h : o.op = .store ty x y) (h : wpList P ops Q (o :: rest) a w) : wpList P ops Q (o :: rest) a w := h
theorem gate_dst {N : Tmp} (_h : o.dst = some N) (h : wpList P ops Q (o :: rest) a w) : wpList P ops Q (o :: rest) a w := h
theorem run_box {t : TypeId} {x : Operand} (ho : o.op = .box t x) (w : World) : Calm.newAt P o a w t (a.eval x).cells := by
  unfold Calm.newAt
  simp [execOp, ho, Instr.box, newVar, newRow, newObj, Sem.run]
theorem run_alloc {t : TypeId} {z : Value} (ho : o.op = .alloc t) (hz : (P.info? t).map (·.zero) = some (some z)) (w : World) : Calm.newAt P o a w t z.cells := by
  unfold Calm.newAt
  cases hq : P.info? t with
  | none => simp [hq] at hz
  | some i =>
    have hz' : i.zero = some z := by simpa [hq] using hz
    simp [execOp, ho, Instr.alloc, newVar, newRow, newObj, zeroValue, typeInfo, hq, hz', Sem.run]

theorem wpl_box {t : TypeId} {x : Operand} (hL : Own B O w0 w L) (ho : o.op = .box t x) (hg : o.guard = none) {cs : Array Value} (hc : (a.eval x).cells = cs)
    (hK : ∀ g w', Own B O w0 w' ((g, t, cs) :: L) → wpList P ops Q rest (a.put o.dst (.pointer (some ⟨g, 0, none⟩))) w') : wpList P ops Q (o :: rest) a w := by
  subst hc
  refine wpList_plain hg fun K hK' => ?_
  have h := run_box (P := P) (a := a) ho w
  unfold Calm.newAt at h
  unfold Oper.wp
  rw [h]
  exact hK' _ _ (hK _ _ (hL.new t _))
theorem wpl_alloc {t : TypeId} (hL : Own B O w0 w L) (ho : o.op = .alloc t) (hg : o.guard = none) {z : Value} (hz : (P.info? t).map (·.zero) = some (some z)) {cs : Array Value} (hc : z.cells = cs)
    (hK : ∀ g w', Own B O w0 w' ((g, t, cs) :: L) → wpList P ops Q rest (a.put o.dst (.pointer (some ⟨g, 0, none⟩))) w') : wpList P ops Q (o :: rest) a w := by
  subst hc
  refine wpList_plain hg fun K hK' => ?_
  have h := run_alloc (P := P) (a := a) ho hz w
  unfold Calm.newAt at h
  unfold Oper.wp
  rw [h]
  exact hK' _ _ (hK _ _ (hL.new t _))

/-- A type of one cell; of many. -/
def oneT (P : Program) (ty : TypeId) : Bool := match P.underlying ty with | some (.struct _) | some (.array _ _) => false | some _ => true | none => false
def aggT (P : Program) (ty : TypeId) : Bool := match P.underlying ty with | some (.struct _) | some (.array _ _) => true | _ => false
theorem run_isAgg_one {ty : TypeId} (h : oneT P ty = true) (w : World) : (isAgg ty).run P w = .ok false w := by
  unfold oneT at h
  cases hu : P.underlying ty with
  | none => simp [hu] at h
  | some d => unfold isAgg; rw [Sem.run_bind, run_underlying hu w]; cases d <;> simp_all
theorem run_isAgg_agg {ty : TypeId} (h : aggT P ty = true) (w : World) : (isAgg ty).run P w = .ok true w := by
  unfold aggT at h
  cases hu : P.underlying ty with
  | none => simp [hu] at h
  | some d => unfold isAgg; rw [Sem.run_bind, run_underlying hu w]; cases d <;> simp_all

theorem run_callFunc {f : FuncId} {fn : Func} (hf : P.funcs[f]? = some fn) (hname : (fn.name == "runtime.NumGoroutine") = false) (hb : fn.body.isSome = true) (args : Array Value) (w : World) : (callFunc f args).run P w = .ok (.enter f args) w := by
  have h1 : fn.name ≠ "runtime.NumGoroutine" := by simpa using hname
  obtain ⟨c, hc⟩ := Option.isSome_iff_exists.1 hb
  simp [callFunc, hf, h1, hc]
theorem run_load1 {ty : TypeId} {x : Operand} (ho : o.op = .load ty x) (h1 : oneT P ty = true) {ad : Addr} (hx : a.eval x = .pointer (some ad)) {v : Value} (hv : w.cell? ad = some v) : (execOp a.eval o).run P w = .ok (.value v) w := by
  simp [execOp, ho, hx, Instr.loadAt, Instr.sureAddr, loadVar, Sem.run_bind, run_isAgg_one h1, run_load, hv, Result.andThen]
theorem add_lit0 (g j off : Nat) : (⟨g, off, none⟩ : Addr).add j = ⟨g, off + j, none⟩ := by unfold Addr.add; split <;> simp_all
theorem run_loadN {ty : TypeId} {x : Operand} (ho : o.op = .load ty x) (h1 : aggT P ty = true) {g off n : Nat} (hx : a.eval x = .pointer (some ⟨g, off, none⟩)) {cs : Array Value} {T : TypeId} {fr : Nat × Nat} (hg : w.heap[g]? = some (.cells cs T fr))
    (hn : (P.info? ty).map (·.size) = some n) (hfit : off + n ≤ cs.size) : (execOp a.eval o).run P w = .ok (.value (.agg (cs.extract off (off + n)))) w := by
  have hl : (loadCells ⟨g, off, none⟩ n).run P w = .ok (cs.extract off (off + n)) w := by
    have := run_loadCells_list (P := P) w ⟨g, off, none⟩ (cs.extract off (off + n)).toList (fun j v hv => by
      rw [add_lit0, cell_of_row w g (off + j) cs T fr hg]
      simp only [Array.getElem?_toList] at hv
      rw [Array.getElem?_extract] at hv
      split at hv
      · exact hv
      · cases hv)
    have e : (cs.extract off (off + n)).toList.length = n := by simp; omega
    rw [e] at this
    rw [Array.toArray_toList] at this
    exact this
  cases hq : P.info? ty with
  | none => simp [hq] at hn
  | some i =>
    have hs : i.size = n := by simpa [hq] using hn
    simp [execOp, ho, hx, Instr.loadAt, Instr.sureAddr, loadVar, Sem.run_bind, run_isAgg_agg h1, sizeOf, typeInfo, hq, hs, hl, Result.andThen]
theorem wpl_run {v : Value} (hg : o.guard = none) (hr : (execOp a.eval o).run P w = .ok (.value v) w') (h : wpList P ops Q rest (a.put o.dst v) w') : wpList P ops Q (o :: rest) a w :=
  wpList_plain hg fun K hK => by unfold Oper.wp; rw [hr]; exact hK _ _ h
theorem wpl_skip (hg : o.guard = none) (hr : (execOp a.eval o).run P w = .ok .skip w') (h : wpList P ops Q rest (a.put o.dst undef) w') : wpList P ops Q (o :: rest) a w :=
  wpList_plain hg fun K hK => by unfold Oper.wp; rw [hr]; exact hK _ _ h

/-- A scalar is loaded out of block i of L. -/
theorem wpl_load {ty : TypeId} {x : Operand} (hL : Own B O w0 w L) (i : Nat) (ho : o.op = .load ty x) (hg : o.guard = none) (h1 : oneT P ty = true) {g off : Nat} (hx : a.eval x = .pointer (some ⟨g, off, none⟩)) {T : TypeId} {cs : Array Value} (hi : L[i]? = some (g, T, cs)) {v : Value} (hv : cs[off]? = some v)
    (h : wpList P ops Q rest (a.put o.dst v) w) : wpList P ops Q (o :: rest) a w :=
  wpl_run hg (run_load1 ho h1 hx (by rw [cell_of_row w g off cs T (0, 0) (hL.at_ hi)]; exact hv)) h
/-- A part of block i of L that is no scalar. -/
theorem wpl_loadN {ty : TypeId} {x : Operand} (hL : Own B O w0 w L) (i n : Nat) (ho : o.op = .load ty x) (hg : o.guard = none) (h1 : aggT P ty = true) (hn : (P.info? ty).map (·.size) = some n) {g off : Nat} (hx : a.eval x = .pointer (some ⟨g, off, none⟩)) {T : TypeId} {cs : Array Value} (hi : L[i]? = some (g, T, cs)) (hfit : off + n ≤ cs.size)
    {vs : Array Value} (hv : cs.extract off (off + n) = vs) (h : wpList P ops Q rest (a.put o.dst (.agg vs)) w) : wpList P ops Q (o :: rest) a w :=
  wpl_run hg (run_loadN ho h1 hx (hL.at_ hi) hn hfit) (by rw [hv]; exact h)
/-- Block i of L, whole. -/
theorem wpl_loadW {ty : TypeId} {x : Operand} (hL : Own B O w0 w L) (i : Nat) (ho : o.op = .load ty x) (hg : o.guard = none) (h1 : aggT P ty = true) {g : Nat} (hx : a.eval x = .pointer (some ⟨g, 0, none⟩)) {T : TypeId} {cs : Array Value} (hi : L[i]? = some (g, T, cs)) (hn : (P.info? ty).map (·.size) = some cs.size)
    (h : wpList P ops Q rest (a.put o.dst (.agg cs)) w) : wpList P ops Q (o :: rest) a w :=
  wpl_run hg (run_loadN ho h1 hx (hL.at_ hi) hn (by omega)) (by simpa using h)

/-- What a block holds when vs has been stored from off on. -/
def splice (cs : Array Value) (off : Nat) (vs : Array Value) : Array Value := (cs.toList.take off ++ vs.toList ++ cs.toList.drop (off + vs.size)).toArray
theorem splice_size (cs : Array Value) (off : Nat) (vs : Array Value) (h : off + vs.size ≤ cs.size) : (splice cs off vs).size = cs.size := by
  simp [splice]; omega
theorem splice_whole (cs vs : Array Value) (h : vs.size = cs.size) : splice cs 0 vs = vs := by
  have e : List.drop (0 + vs.size) cs.toList = [] := List.drop_eq_nil_of_le (by simp [h])
  simp only [splice, e, List.take_zero, List.nil_append, List.append_nil, Array.toArray_toList]
theorem splice_get (cs : Array Value) (off : Nat) (vs : Array Value) (h : off + vs.size ≤ cs.size) (j : Nat) : (splice cs off vs)[j]? = if off ≤ j ∧ j < off + vs.size then vs[j - off]? else cs[j]? := by
  simp only [splice, List.getElem?_toArray, List.append_assoc]
  by_cases h1 : j < off
  · rw [List.getElem?_append_left (by simp; omega), List.getElem?_take, if_pos h1, if_neg (by omega), Array.getElem?_toList]
  · rw [List.getElem?_append_right (by simp; omega)]
    have e : (List.take off cs.toList).length = off := by simp; omega
    rw [e]
    by_cases h2 : j < off + vs.size
    · rw [List.getElem?_append_left (by simp; omega), if_pos (by omega), Array.getElem?_toList]
    · rw [List.getElem?_append_right (by simp; omega), if_neg (by omega), List.getElem?_drop, Array.getElem?_toList]
      congr 1
      simp
      omega

theorem run_storeN {ty : TypeId} {x y : Operand} (ho : o.op = .store ty x y) {g off n : Nat} (hx : a.eval x = .pointer (some ⟨g, off, none⟩)) {vs : Array Value} (hy : (a.eval y).cells = vs) (hn : (P.info? ty).map (·.size) = some n) (hvs : vs.size = n) (h1 : ∀ v ∈ vs.toList, v.oneCell' = true)
    {cs : Array Value} {T : TypeId} (hg : w.heap[g]? = some (.cells cs T (0, 0))) (hfit : off + n ≤ cs.size) : (execOp a.eval o).run P w = .ok .skip (w.setRow g (splice cs off vs)) := by
  have hst := run_storeCells_at P g off T vs.toList 0 cs w hg (by simp; omega) h1
  cases hq : P.info? ty with
  | none => simp [hq] at hn
  | some i =>
    have hs : i.size = n := by simpa [hq] using hn
    simp only [Nat.add_zero] at hst
    have hti : (typeInfo ty).run P w = .ok i w := by simp [typeInfo, hq]
    simp only [execOp, ho, hx, Instr.storeAt, Instr.sureAddr, storeVar, Sem.run_bind, Sem.run_pure, Result.andThen_ok, hy, sizeOf, hti, hs, hvs, ne_eq, not_true_eq_false, if_false, hst]
    simp [splice]
/-- Cells are stored into block i of L. -/
theorem wpl_store {ty : TypeId} {x y : Operand} (hL : Own B O w0 w L) (i n : Nat) (ho : o.op = .store ty x y) (hg : o.guard = none) (hn : (P.info? ty).map (·.size) = some n) {g off : Nat} (hx : a.eval x = .pointer (some ⟨g, off, none⟩)) {vs : Array Value} (hy : (a.eval y).cells = vs) (hvs : vs.size = n) (h1 : ∀ v ∈ vs.toList, v.oneCell' = true)
    {T : TypeId} {cs : Array Value} (hi : L[i]? = some (g, T, cs)) (hfit : off + n ≤ cs.size) {cs' : Array Value} (hc : splice cs off vs = cs') {L' : List (Nat × TypeId × Array Value)} (hL' : L.set i (g, T, cs') = L')
    (h : ∀ w', Own B O w0 w' L' → wpList P ops Q rest (a.put o.dst undef) w') : wpList P ops Q (o :: rest) a w := by
  subst hc; subst hL'
  exact wpl_skip hg (run_storeN ho hx hy hn hvs h1 (hL.at_ hi) hfit) (h _ (hL.put hi _))
theorem one_only {v : Value} (h : v.oneCell' = true) : ∀ u ∈ (#[v] : Array Value).toList, u.oneCell' = true := by
  intro u hu
  simp at hu
  subst hu
  exact h
theorem cells_one {v : Value} (h : v.oneCell' = true) : v.cells = #[v] := by
  cases v <;> first | rfl | (simp [Value.oneCell'] at h; done)
theorem splice_one (cs : Array Value) (off : Nat) (v : Value) (h : off < cs.size) : splice cs off #[v] = cs.setIfInBounds off v := by
  apply Array.ext_getElem?
  intro j
  rw [splice_get cs off #[v] (by simp; omega), Array.getElem?_setIfInBounds]
  by_cases hj : j = off
  · subst hj; simp [h]
  · rw [if_neg (by simp; omega), if_neg (by omega)]
theorem wpl_load_0 {ty : TypeId} {x : Operand} {L : List (Nat × TypeId × Array Value)} {T : TypeId} {cs : Array Value} {g : Nat} (hL : Own B O w0 w ((g, T, cs) :: L)) (ho : o.op = .load ty x) (hg : o.guard = none) (h1 : oneT P ty = true) {off : Nat} (hx : a.eval x = .pointer (some ⟨g, off, none⟩)) {v : Value} (hv : cs[off]? = some v) (h : wpList P ops Q rest (a.put o.dst v) w) : wpList P ops Q (o :: rest) a w := wpl_load hL 0 ho hg h1 hx rfl hv h
theorem wpl_loadW_0 {ty : TypeId} {x : Operand} {L : List (Nat × TypeId × Array Value)} {T : TypeId} {cs : Array Value} {g : Nat} (hL : Own B O w0 w ((g, T, cs) :: L)) (ho : o.op = .load ty x) (hg : o.guard = none) (h1 : aggT P ty = true) (hx : a.eval x = .pointer (some ⟨g, 0, none⟩)) {n : Nat} (hsz : cs.size = n) (hn : (P.info? ty).map (·.size) = some n) (h : wpList P ops Q rest (a.put o.dst (.agg cs)) w) : wpList P ops Q (o :: rest) a w := wpl_loadW hL 0 ho hg h1 hx rfl (by rw [hsz]; exact hn) h
theorem wpl_store1_0 {y : Operand} {ty : TypeId} {x : Operand} {L : List (Nat × TypeId × Array Value)} {T : TypeId} {cs : Array Value} {g : Nat} (hL : Own B O w0 w ((g, T, cs) :: L)) (ho : o.op = .store ty x y) (hg : o.guard = none) (hn : (P.info? ty).map (·.size) = some 1) {off : Nat} (hx : a.eval x = .pointer (some ⟨g, off, none⟩)) {v : Value} (hy : a.eval y = v) (h1 : v.oneCell' = true) (hfit : off < cs.size) (h : ∀ w', Own B O w0 w' ((g, T, cs.setIfInBounds off v) :: L) → wpList P ops Q rest (a.put o.dst undef) w') : wpList P ops Q (o :: rest) a w := wpl_store hL 0 1 ho hg hn hx (by rw [hy]; exact cells_one h1) rfl (one_only h1) rfl hfit (splice_one cs off v hfit) rfl h
theorem wpl_storeN_0 {y : Operand} {ty : TypeId} {x : Operand} {L : List (Nat × TypeId × Array Value)} {T : TypeId} {cs : Array Value} {g : Nat} (hL : Own B O w0 w ((g, T, cs) :: L)) (n : Nat) (ho : o.op = .store ty x y) (hg : o.guard = none) (hn : (P.info? ty).map (·.size) = some n) {off : Nat} (hx : a.eval x = .pointer (some ⟨g, off, none⟩)) {vs : Array Value} (hy : a.eval y = .agg vs) (hvs : vs.size = n) (h1 : ∀ v ∈ vs.toList, v.oneCell' = true) (hfit : off + n ≤ cs.size) (h : ∀ w', Own B O w0 w' ((g, T, splice cs off vs) :: L) → wpList P ops Q rest (a.put o.dst undef) w') : wpList P ops Q (o :: rest) a w := wpl_store hL 0 n ho hg hn hx (by rw [hy]; rfl) hvs h1 rfl hfit rfl rfl h
theorem wpl_storeW_0 {y : Operand} {ty : TypeId} {x : Operand} {L : List (Nat × TypeId × Array Value)} {T : TypeId} {cs : Array Value} {g : Nat} (hL : Own B O w0 w ((g, T, cs) :: L)) (ho : o.op = .store ty x y) (hg : o.guard = none) (hx : a.eval x = .pointer (some ⟨g, 0, none⟩)) {vs : Array Value} (hy : a.eval y = .agg vs) {n : Nat} (hsz0 : cs.size = n) (hn : (P.info? ty).map (·.size) = some n) (h1 : ∀ v ∈ vs.toList, v.oneCell' = true) (hsz1 : vs.size = n) (h : ∀ w', Own B O w0 w' ((g, T, vs) :: L) → wpList P ops Q rest (a.put o.dst undef) w') : wpList P ops Q (o :: rest) a w := wpl_store hL 0 n ho hg hn hx (by rw [hy]; rfl) hsz1 h1 rfl (by omega) (splice_whole cs vs (by omega)) rfl h
theorem wpl_load_1 {ty : TypeId} {x : Operand} {x0 : Nat × TypeId × Array Value} {L : List (Nat × TypeId × Array Value)} {T : TypeId} {cs : Array Value} {g : Nat} (hL : Own B O w0 w (x0 :: (g, T, cs) :: L)) (ho : o.op = .load ty x) (hg : o.guard = none) (h1 : oneT P ty = true) {off : Nat} (hx : a.eval x = .pointer (some ⟨g, off, none⟩)) {v : Value} (hv : cs[off]? = some v) (h : wpList P ops Q rest (a.put o.dst v) w) : wpList P ops Q (o :: rest) a w := wpl_load hL 1 ho hg h1 hx rfl hv h
theorem wpl_loadW_1 {ty : TypeId} {x : Operand} {x0 : Nat × TypeId × Array Value} {L : List (Nat × TypeId × Array Value)} {T : TypeId} {cs : Array Value} {g : Nat} (hL : Own B O w0 w (x0 :: (g, T, cs) :: L)) (ho : o.op = .load ty x) (hg : o.guard = none) (h1 : aggT P ty = true) (hx : a.eval x = .pointer (some ⟨g, 0, none⟩)) {n : Nat} (hsz : cs.size = n) (hn : (P.info? ty).map (·.size) = some n) (h : wpList P ops Q rest (a.put o.dst (.agg cs)) w) : wpList P ops Q (o :: rest) a w := wpl_loadW hL 1 ho hg h1 hx rfl (by rw [hsz]; exact hn) h
theorem wpl_store1_1 {y : Operand} {ty : TypeId} {x : Operand} {x0 : Nat × TypeId × Array Value} {L : List (Nat × TypeId × Array Value)} {T : TypeId} {cs : Array Value} {g : Nat} (hL : Own B O w0 w (x0 :: (g, T, cs) :: L)) (ho : o.op = .store ty x y) (hg : o.guard = none) (hn : (P.info? ty).map (·.size) = some 1) {off : Nat} (hx : a.eval x = .pointer (some ⟨g, off, none⟩)) {v : Value} (hy : a.eval y = v) (h1 : v.oneCell' = true) (hfit : off < cs.size) (h : ∀ w', Own B O w0 w' (x0 :: (g, T, cs.setIfInBounds off v) :: L) → wpList P ops Q rest (a.put o.dst undef) w') : wpList P ops Q (o :: rest) a w := wpl_store hL 1 1 ho hg hn hx (by rw [hy]; exact cells_one h1) rfl (one_only h1) rfl hfit (splice_one cs off v hfit) rfl h
theorem wpl_storeW_1 {y : Operand} {ty : TypeId} {x : Operand} {x0 : Nat × TypeId × Array Value} {L : List (Nat × TypeId × Array Value)} {T : TypeId} {cs : Array Value} {g : Nat} (hL : Own B O w0 w (x0 :: (g, T, cs) :: L)) (ho : o.op = .store ty x y) (hg : o.guard = none) (hx : a.eval x = .pointer (some ⟨g, 0, none⟩)) {vs : Array Value} (hy : a.eval y = .agg vs) {n : Nat} (hsz0 : cs.size = n) (hn : (P.info? ty).map (·.size) = some n) (h1 : ∀ v ∈ vs.toList, v.oneCell' = true) (hsz1 : vs.size = n) (h : ∀ w', Own B O w0 w' (x0 :: (g, T, vs) :: L) → wpList P ops Q rest (a.put o.dst undef) w') : wpList P ops Q (o :: rest) a w := wpl_store hL 1 n ho hg hn hx (by rw [hy]; rfl) hsz1 h1 rfl (by omega) (splice_whole cs vs (by omega)) rfl h
theorem wpl_load_2 {ty : TypeId} {x : Operand} {x0 x1 : Nat × TypeId × Array Value} {L : List (Nat × TypeId × Array Value)} {T : TypeId} {cs : Array Value} {g : Nat} (hL : Own B O w0 w (x0 :: x1 :: (g, T, cs) :: L)) (ho : o.op = .load ty x) (hg : o.guard = none) (h1 : oneT P ty = true) {off : Nat} (hx : a.eval x = .pointer (some ⟨g, off, none⟩)) {v : Value} (hv : cs[off]? = some v) (h : wpList P ops Q rest (a.put o.dst v) w) : wpList P ops Q (o :: rest) a w := wpl_load hL 2 ho hg h1 hx rfl hv h
theorem wpl_loadN_2 {ty : TypeId} {x : Operand} {x0 x1 : Nat × TypeId × Array Value} {L : List (Nat × TypeId × Array Value)} {T : TypeId} {cs : Array Value} {g : Nat} (hL : Own B O w0 w (x0 :: x1 :: (g, T, cs) :: L)) (n : Nat) (ho : o.op = .load ty x) (hg : o.guard = none) (h1 : aggT P ty = true) (hn : (P.info? ty).map (·.size) = some n) {off : Nat} (hx : a.eval x = .pointer (some ⟨g, off, none⟩)) (hfit : off + n ≤ cs.size) {vs : Array Value} (hv : cs.extract off (off + n) = vs) (h : wpList P ops Q rest (a.put o.dst (.agg vs)) w) : wpList P ops Q (o :: rest) a w := wpl_loadN hL 2 n ho hg h1 hn hx rfl hfit hv h
theorem wpl_load_3 {ty : TypeId} {x : Operand} {x0 x1 x2 : Nat × TypeId × Array Value} {L : List (Nat × TypeId × Array Value)} {T : TypeId} {cs : Array Value} {g : Nat} (hL : Own B O w0 w (x0 :: x1 :: x2 :: (g, T, cs) :: L)) (ho : o.op = .load ty x) (hg : o.guard = none) (h1 : oneT P ty = true) {off : Nat} (hx : a.eval x = .pointer (some ⟨g, off, none⟩)) {v : Value} (hv : cs[off]? = some v) (h : wpList P ops Q rest (a.put o.dst v) w) : wpList P ops Q (o :: rest) a w := wpl_load hL 3 ho hg h1 hx rfl hv h
theorem wpl_load_4 {ty : TypeId} {x : Operand} {x0 x1 x2 x3 : Nat × TypeId × Array Value} {L : List (Nat × TypeId × Array Value)} {T : TypeId} {cs : Array Value} {g : Nat} (hL : Own B O w0 w (x0 :: x1 :: x2 :: x3 :: (g, T, cs) :: L)) (ho : o.op = .load ty x) (hg : o.guard = none) (h1 : oneT P ty = true) {off : Nat} (hx : a.eval x = .pointer (some ⟨g, off, none⟩)) {v : Value} (hv : cs[off]? = some v) (h : wpList P ops Q rest (a.put o.dst v) w) : wpList P ops Q (o :: rest) a w := wpl_load hL 4 ho hg h1 hx rfl hv h
theorem wpl_load_5 {ty : TypeId} {x : Operand} {x0 x1 x2 x3 x4 : Nat × TypeId × Array Value} {L : List (Nat × TypeId × Array Value)} {T : TypeId} {cs : Array Value} {g : Nat} (hL : Own B O w0 w (x0 :: x1 :: x2 :: x3 :: x4 :: (g, T, cs) :: L)) (ho : o.op = .load ty x) (hg : o.guard = none) (h1 : oneT P ty = true) {off : Nat} (hx : a.eval x = .pointer (some ⟨g, off, none⟩)) {v : Value} (hv : cs[off]? = some v) (h : wpList P ops Q rest (a.put o.dst v) w) : wpList P ops Q (o :: rest) a w := wpl_load hL 5 ho hg h1 hx rfl hv h
/-! ### Slices -/
theorem run_loadA {ty : TypeId} {x : Operand} (ho : o.op = .load ty x) (h1 : aggT P ty = true) {b off n : Nat} (hx : a.eval x = .pointer (some ⟨b, off, none⟩)) {c : List Value} (hc : ∀ (j : Nat) (u : Value), c[j]? = some u → w.cell? ⟨b, off + j, none⟩ = some u) (hn : (P.info? ty).map (·.size) = some n) (hl : c.length = n) : (execOp a.eval o).run P w = .ok (.value (.agg c.toArray)) w := by
  have hl' : (loadCells ⟨b, off, none⟩ n).run P w = .ok c.toArray w := by
    have := run_loadCells_list (P := P) w ⟨b, off, none⟩ c (fun j v hv => by rw [add_lit0]; exact hc j v hv)
    rw [hl] at this
    exact this
  cases hq : P.info? ty with
  | none => simp [hq] at hn
  | some i =>
    have hs : i.size = n := by simpa [hq] using hn
    simp [execOp, ho, hx, Instr.loadAt, Instr.sureAddr, loadVar, Sem.run_bind, run_isAgg_agg h1, sizeOf, typeInfo, hq, hs, hl', Result.andThen]
/-- An element of many cells, out of a slice. -/
theorem wpl_loadA {ty : TypeId} {x : Operand} (n : Nat) (ho : o.op = .load ty x) (hg : o.guard = none) (h1 : aggT P ty = true) {b off : Nat} (hx : a.eval x = .pointer (some ⟨b, off, none⟩)) {c : List Value} (hc : ∀ (j : Nat) (u : Value), c[j]? = some u → w.cell? ⟨b, off + j, none⟩ = some u) (hn : (P.info? ty).map (·.size) = some n) (hl : c.length = n)
    (h : wpList P ops Q rest (a.put o.dst (.agg c.toArray)) w) : wpList P ops Q (o :: rest) a w := wpl_run hg (run_loadA ho h1 hx hc hn hl) h
/-! ### Steps of a region that draws (Calm) -/
open Calm in
section
variable {Bx : Nat} {w00 : World} {pl : Nat → Plan} {K2 : Act → Made → Prop} {k : Nat} {E : Made}
theorem lex_val {v : Value} (hg : o.guard = none) (hp : pl k = .inl v) (hr : ∀ w', Below B w w' → calmAt P o a w' v) (h : wpLex P ops B w pl K2 rest (k + 1) (a.put o.dst v) E) : wpLex P ops B w pl K2 (o :: rest) k a E := by
  unfold wpLex
  rw [if_pos (by simp [Region.wanted, hg])]
  unfold pOp
  rw [hp]
  exact ⟨hr, h⟩
theorem lex_pure {v : Value} (hg : o.guard = none) (hp : pl k = .inl v) (hr : ∀ w', (execOp a.eval o).run P w' = .ok (.value v) w') (h : wpLex P ops B w pl K2 rest (k + 1) (a.put o.dst v) E) : wpLex P ops B w pl K2 (o :: rest) k a E :=
  lex_val hg hp (fun w' _ => by unfold calmAt; rw [hr]; exact ⟨rfl, rfl⟩) h
theorem lex_move {x : Operand} {v : Value} (hg : o.guard = none) (ho : o.op = .move x) (hv : a.eval x = v) (hp : pl k = .inl v) (h : wpLex P ops B w pl K2 rest (k + 1) (a.put o.dst v) E) : wpLex P ops B w pl K2 (o :: rest) k a E :=
  lex_pure hg hp (fun w' => by simp [execOp, ho, hv]) h
theorem lex_assign {x : Operand} {v : Value} (hg : o.guard = none) (ho : o.op = .assign x) (hv : a.eval x = v) (hp : pl k = .inl v) (h : wpLex P ops B w pl K2 rest (k + 1) (a.put o.dst v) E) : wpLex P ops B w pl K2 (o :: rest) k a E :=
  lex_pure hg hp (fun w' => by simp [execOp, ho, hv]) h
/-- A call of a Go function by its contract. -/
theorem lex_call {f : FuncId} {fn : Func} {xs : Array Operand} {ts : Array TypeId} {v : Value} {args : Array Value} (hf : P.funcs[f]? = some fn) (hname : (fn.name == "runtime.NumGoroutine") = false) (hb : fn.body.isSome = true) (hg : o.guard = none)
    (hop : o.op = .call { callee := .value (.func f), args := xs, argTypes := ts }) (hargs : xs.map a.eval = args) (hp : pl k = .inl v) (hc : ∀ w', Below B w w' → Calls P f args w' fun e w'' => e = .returned v ∧ Below w'.heap.size w' w'')
    (h : wpLex P ops B w pl K2 rest (k + 1) (a.put o.dst v) E) : wpLex P ops B w pl K2 (o :: rest) k a E := by
  refine lex_val hg hp (fun w' hw' => ?_) h
  have he := run_callFunc hf hname hb args w'
  have hrun : (execOp a.eval o).run P w' = .ok (.enter f args) w' := by
    unfold execOp
    simp [hop, resolve, Deferred.ofValue, invoke, Act.eval, hargs, he]
  unfold calmAt
  rw [hrun]
  exact ⟨rfl, hc w' hw'⟩
/-- An element of many cells, out of a slice that stood before the region. -/
theorem lex_loadA {ty : TypeId} {x : Operand} (n : Nat) (ho : o.op = .load ty x) (hg : o.guard = none) (h1 : aggT P ty = true) {b off : Nat} (hx : a.eval x = .pointer (some ⟨b, off, none⟩)) {c : List Value} (hc : ∀ (j : Nat) (u : Value), c[j]? = some u → w.cell? ⟨b, off + j, none⟩ = some u) (hl : c.length = n) (hn : (P.info? ty).map (·.size) = some n) {v : Value} (hvv : Value.agg c.toArray = v) (hp : pl k = .inl v)
    (h : wpLex P ops w.heap.size w pl K2 rest (k + 1) (a.put o.dst v) E) : wpLex P ops w.heap.size w pl K2 (o :: rest) k a E :=
  lex_val hg hp (fun w' hb => by
    subst hvv
    unfold calmAt
    rw [run_loadA ho h1 hx (fun j u hu => by rw [hb.cell (p := ⟨b, off + j, none⟩) (World.block_lt_of_cell? w _ (hc j u hu))]; exact hc j u hu) hn hl]
    exact ⟨rfl, rfl⟩) h
theorem lex_skip (hg : Region.wanted o (yielded ops a.tmps) = false) (h : wpLex P ops B w pl K2 rest (k + 1) (a.put o.dst undef) E) : wpLex P ops B w pl K2 (o :: rest) k a E := by
  unfold wpLex
  rw [if_neg (by rw [hg]; simp)]
  exact h
theorem lex_want (hg : Region.wanted o (yielded ops a.tmps) = true) (h : wpLex P ops B w pl K2 ({ o with guard := none } :: rest) k a E) : wpLex P ops B w pl K2 (o :: rest) k a E := by
  unfold wpLex at h ⊢
  rw [if_pos (by rfl)] at h
  rw [if_pos hg]
  exact h
/-- The whole of a new block is stored. -/
theorem lex_store {ty t : TypeId} {x y : Operand} {g : Nat} {cs old : Array Value} (hg : o.guard = none) (ho : o.op = .store ty x y) (hx : a.eval x = .pointer (some ⟨g, 0, none⟩)) (hy : (a.eval y).cells = cs) {n : Nat} (hsz : cs.size = n) (hn : (P.info? ty).map (·.size) = some n) (h1 : ∀ v ∈ cs.toList, v.oneCell' = true)
    (he : E g = some (t, old)) (hso : old.size = n) (hp : pl k = .inr (true, t, cs)) (h : wpLex P ops B w pl K2 rest (k + 1) (a.put o.dst undef) (upd E g (t, cs))) : wpLex P ops B w pl K2 (o :: rest) k a E := by
  unfold wpLex
  rw [if_pos (by simp [Region.wanted, hg])]
  unfold pOp
  rw [hp]
  refine ⟨ty, x, y, g, old, ho, hx, he, fun w' old' hw' hs' => ?_, by omega, h⟩
  refine ⟨w'.setRow g (splice old' 0 cs), run_storeN ho hx hy hn hsz h1 hw' (by omega), ?_, fun k hk => setRow_other w' g k _ hk, by simp, rfl, rfl, rfl⟩
  rw [splice_whole old' cs (by omega)]
  exact setRow_heap w' g old' cs t (0, 0) hw'
theorem lex_load_0 {x : Operand} {ty : TypeId} {L : List (Nat × TypeId × Array Value)} {T : TypeId} {cs : Array Value} {g : Nat} (hL : Own Bx O w00 w ((g, T, cs) :: L)) (ho : o.op = .load ty x) (hg : o.guard = none) (h1 : oneT P ty = true) {off : Nat} (hx : a.eval x = .pointer (some ⟨g, off, none⟩)) {v : Value} (hv : cs[off]? = some v) (hp : pl k = .inl v) (h : wpLex P ops w.heap.size w pl K2 rest (k + 1) (a.put o.dst v) E) : wpLex P ops w.heap.size w pl K2 (o :: rest) k a E := lex_val hg hp (fun w' hb => by unfold calmAt; rw [run_load1 ho h1 hx (by rw [cell_of_row w' g off cs T (0, 0) ((hL.ext hb).at_ (i := 0) rfl)]; exact hv)]; exact ⟨rfl, rfl⟩) h
theorem lex_load_1 {x : Operand} {ty : TypeId} {x0 : Nat × TypeId × Array Value} {L : List (Nat × TypeId × Array Value)} {T : TypeId} {cs : Array Value} {g : Nat} (hL : Own Bx O w00 w (x0 :: (g, T, cs) :: L)) (ho : o.op = .load ty x) (hg : o.guard = none) (h1 : oneT P ty = true) {off : Nat} (hx : a.eval x = .pointer (some ⟨g, off, none⟩)) {v : Value} (hv : cs[off]? = some v) (hp : pl k = .inl v) (h : wpLex P ops w.heap.size w pl K2 rest (k + 1) (a.put o.dst v) E) : wpLex P ops w.heap.size w pl K2 (o :: rest) k a E := lex_val hg hp (fun w' hb => by unfold calmAt; rw [run_load1 ho h1 hx (by rw [cell_of_row w' g off cs T (0, 0) ((hL.ext hb).at_ (i := 1) rfl)]; exact hv)]; exact ⟨rfl, rfl⟩) h
theorem lex_load_2 {x : Operand} {ty : TypeId} {x0 x1 : Nat × TypeId × Array Value} {L : List (Nat × TypeId × Array Value)} {T : TypeId} {cs : Array Value} {g : Nat} (hL : Own Bx O w00 w (x0 :: x1 :: (g, T, cs) :: L)) (ho : o.op = .load ty x) (hg : o.guard = none) (h1 : oneT P ty = true) {off : Nat} (hx : a.eval x = .pointer (some ⟨g, off, none⟩)) {v : Value} (hv : cs[off]? = some v) (hp : pl k = .inl v) (h : wpLex P ops w.heap.size w pl K2 rest (k + 1) (a.put o.dst v) E) : wpLex P ops w.heap.size w pl K2 (o :: rest) k a E := lex_val hg hp (fun w' hb => by unfold calmAt; rw [run_load1 ho h1 hx (by rw [cell_of_row w' g off cs T (0, 0) ((hL.ext hb).at_ (i := 2) rfl)]; exact hv)]; exact ⟨rfl, rfl⟩) h
theorem lex_load_3 {x : Operand} {ty : TypeId} {x0 x1 x2 : Nat × TypeId × Array Value} {L : List (Nat × TypeId × Array Value)} {T : TypeId} {cs : Array Value} {g : Nat} (hL : Own Bx O w00 w (x0 :: x1 :: x2 :: (g, T, cs) :: L)) (ho : o.op = .load ty x) (hg : o.guard = none) (h1 : oneT P ty = true) {off : Nat} (hx : a.eval x = .pointer (some ⟨g, off, none⟩)) {v : Value} (hv : cs[off]? = some v) (hp : pl k = .inl v) (h : wpLex P ops w.heap.size w pl K2 rest (k + 1) (a.put o.dst v) E) : wpLex P ops w.heap.size w pl K2 (o :: rest) k a E := lex_val hg hp (fun w' hb => by unfold calmAt; rw [run_load1 ho h1 hx (by rw [cell_of_row w' g off cs T (0, 0) ((hL.ext hb).at_ (i := 3) rfl)]; exact hv)]; exact ⟨rfl, rfl⟩) h
theorem lex_load_4 {x : Operand} {ty : TypeId} {x0 x1 x2 x3 : Nat × TypeId × Array Value} {L : List (Nat × TypeId × Array Value)} {T : TypeId} {cs : Array Value} {g : Nat} (hL : Own Bx O w00 w (x0 :: x1 :: x2 :: x3 :: (g, T, cs) :: L)) (ho : o.op = .load ty x) (hg : o.guard = none) (h1 : oneT P ty = true) {off : Nat} (hx : a.eval x = .pointer (some ⟨g, off, none⟩)) {v : Value} (hv : cs[off]? = some v) (hp : pl k = .inl v) (h : wpLex P ops w.heap.size w pl K2 rest (k + 1) (a.put o.dst v) E) : wpLex P ops w.heap.size w pl K2 (o :: rest) k a E := lex_val hg hp (fun w' hb => by unfold calmAt; rw [run_load1 ho h1 hx (by rw [cell_of_row w' g off cs T (0, 0) ((hL.ext hb).at_ (i := 4) rfl)]; exact hv)]; exact ⟨rfl, rfl⟩) h
theorem lex_load_5 {x : Operand} {ty : TypeId} {x0 x1 x2 x3 x4 : Nat × TypeId × Array Value} {L : List (Nat × TypeId × Array Value)} {T : TypeId} {cs : Array Value} {g : Nat} (hL : Own Bx O w00 w (x0 :: x1 :: x2 :: x3 :: x4 :: (g, T, cs) :: L)) (ho : o.op = .load ty x) (hg : o.guard = none) (h1 : oneT P ty = true) {off : Nat} (hx : a.eval x = .pointer (some ⟨g, off, none⟩)) {v : Value} (hv : cs[off]? = some v) (hp : pl k = .inl v) (h : wpLex P ops w.heap.size w pl K2 rest (k + 1) (a.put o.dst v) E) : wpLex P ops w.heap.size w pl K2 (o :: rest) k a E := lex_val hg hp (fun w' hb => by unfold calmAt; rw [run_load1 ho h1 hx (by rw [cell_of_row w' g off cs T (0, 0) ((hL.ext hb).at_ (i := 5) rfl)]; exact hv)]; exact ⟨rfl, rfl⟩) h
end
/-- A new block that a region has made joins the list. -/
theorem Own.add (h : Own B O w0 w L) (hb : Below w.heap.size w w') {g : Nat} {T : TypeId} {cs : Array Value} (hg : w.heap.size ≤ g) (hblk : w'.heap[g]? = some (.cells cs T (0, 0))) : Own B O w0 w' ((g, T, cs) :: L) := by
  have h' := h.ext hb
  have hlt : ∀ x ∈ L, x.1 < w.heap.size := fun x hx => (Array.getElem?_eq_some_iff.1 (h.has x hx)).1
  refine ⟨h'.os, h'.tape, h'.output, h'.size, h'.base, fun k hk hx => h'.keep k hk fun x hx' => hx x (List.mem_cons_of_mem _ hx'), fun x hx => ?_, fun x hx => ?_, ?_⟩
  · rcases List.mem_cons.1 hx with rfl | hx
    · left; have := h.size; have := h.base; show B ≤ g; omega
    · exact h.low x hx
  · rcases List.mem_cons.1 hx with rfl | hx
    · exact hblk
    · exact h'.has x hx
  · simp only [List.map_cons, List.nodup_cons, List.mem_map, not_exists, not_and]
    exact ⟨fun x hx e => by have := hlt x hx; omega, h.nodup⟩
/-! ### A function's results -/
def ResIs (P : Program) (w : World) (tmps : Array Value) (r : ResultVar) (v : Value) : Prop := match r with
  | .tmp t => tmps.getD t undef = v
  | .cell p ty => ∃ ad, tmps.getD p undef = .pointer (some ad) ∧ (loadVar ty ad).run P w = .ok v w
theorem res_tmp {tmps : Array Value} {t : Tmp} {v : Value} (h : tmps.getD t undef = v) : ResIs P w tmps (.tmp t) v := h
theorem res_cell {tmps : Array Value} {p : Tmp} {ty : TypeId} {g : Nat} {T : TypeId} {cs : Array Value} (hL : w.heap[g]? = some (.cells cs T (0, 0))) (h : tmps.getD p undef = .pointer (some ⟨g, 0, none⟩)) (h1 : aggT P ty = true) {n : Nat} (hsz : cs.size = n) (hn : (P.info? ty).map (·.size) = some n) : ResIs P w tmps (.cell p ty) (.agg cs) := by
  rw [← hsz] at hn
  refine ⟨_, h, ?_⟩
  have hr := run_loadN (P := P) (w := w) (o := ⟨none, .load ty (.const (.pointer (some ⟨g, 0, none⟩))), 0, "", #[], none⟩) (a := ⟨#[], []⟩) rfl h1 (off := 0) rfl hL hn (by omega)
  simp only [execOp, Act.eval, Instr.loadAt, Instr.sureAddr, Sem.run_bind, Sem.run_pure, Result.andThen_ok, Nat.zero_add, Array.extract_size] at hr
  generalize (loadVar ty ⟨g, 0, none⟩).run P w = r at hr ⊢
  cases r with
  | ok v w' => simp only [Result.andThen_ok] at hr; injection hr with h1 h2; injection h1 with h1; subst h1; subst h2; rfl
  | halt x w' => simp [Result.andThen] at hr
def resSem (tmps : Array Value) : ResultVar → Sem Value := fun
    | .tmp t => pure (tmps.getD t undef)
    | .cell a t => do loadVar t (← asAddr (tmps.getD a undef))
theorem results_sem (fn : Func) (tmps : Array Value) : results fn tmps = (do
    let vs ← fn.results.mapM (resSem tmps)
    pure (if h : vs.size = 1 then vs[0] else .tuple vs)) := rfl
theorem run_res {tmps : Array Value} {r : ResultVar} {v : Value} (h : ResIs P w tmps r v) : (resSem tmps r).run P w = .ok v w := by
  cases r with
  | tmp t => have h' : tmps.getD t undef = v := h; simp only [resSem, Sem.run_pure, h']
  | cell p ty => obtain ⟨ad, h1, h2⟩ := h; simp only [resSem, h1, asAddr, Sem.run_bind, Sem.run_pure, Result.andThen_ok, h2]
theorem post_gate {fn : Func} {R : Ending → World → Prop} {e : Exit} (h : bodyPost P fn R e a w) : bodyPost P fn R e a w := h
theorem post1 {fn : Func} {R : Ending → World → Prop} {r : ResultVar} (hf : fn.results = #[r]) {v : Value} (h1 : ResIs P w a.tmps r v) (hd : a.defers = []) (hR : R (.returned v) w) : bodyPost P fn R .ret a w := by
  refine ⟨hd, v, ?_, hR⟩
  have e1 := run_res h1
  simp only [results_sem, hf, List.mapM_toArray, List.mapM_cons, List.mapM_nil, Sem.run_bind, Sem.run_pure, Result.andThen_ok, e1, Sem.run_map]
  rfl
theorem post3 {fn : Func} {R : Ending → World → Prop} {r s t : ResultVar} (hf : fn.results = #[r, s, t]) {v u x : Value} (h1 : ResIs P w a.tmps r v) (h2 : ResIs P w a.tmps s u) (h3 : ResIs P w a.tmps t x) (hd : a.defers = []) (hR : R (.returned (.tuple #[v, u, x])) w) : bodyPost P fn R .ret a w := by
  refine ⟨hd, _, ?_, hR⟩
  have e1 := run_res h1
  have e2 := run_res h2
  have e3 := run_res h3
  simp only [results_sem, hf, List.mapM_toArray, List.mapM_cons, List.mapM_nil, Sem.run_bind, Sem.run_pure, Result.andThen_ok, e1, e2, e3, Sem.run_map]
  rfl
end
end Go.Proofs.Ytnafnhpajkhgkaa.Mem
