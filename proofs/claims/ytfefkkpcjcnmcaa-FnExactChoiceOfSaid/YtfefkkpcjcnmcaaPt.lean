/- Slices made cell by cell. Plain theorems, no condition. -/
import Derived.Test.YtfefkkpcjcnmcaaSlc
namespace Go.Proofs.Ytfefkkpcjcnmcaa.Wk
set_option linter.unusedVariables false
set_option linter.unusedSimpArgs false
open Go Go.RowKit Mem
variable {P : Program} {n : Nat} {O : List Nat} {w0 : World} {l : List (Nat × Value)} {L : List (Nat × TypeId × Array Value)} {Q : Exit → Act → World → Prop} {ops : Array Oper} {o : Oper} {rest : List Oper} {d : Nat} {x y : Operand}
section
variable {b0 b1 b2 b3 b4 b5 : Nat × TypeId × Array Value} {g : Nat} {T : TypeId} {cs : Array Value}
theorem absA0 (Pf : Array Value → Prop) (hp : Pf cs) (h : ∀ cs', Pf cs' → S P ops Q n O w0 rest l ((g, T, cs') :: L)) : S P ops Q n O w0 rest l ((g, T, cs) :: L) := h cs hp
theorem absA1 (Pf : Array Value → Prop) (hp : Pf cs) (h : ∀ cs', Pf cs' → S P ops Q n O w0 rest l (b0 :: (g, T, cs') :: L)) : S P ops Q n O w0 rest l (b0 :: (g, T, cs) :: L) := h cs hp
theorem absA2 (Pf : Array Value → Prop) (hp : Pf cs) (h : ∀ cs', Pf cs' → S P ops Q n O w0 rest l (b0 :: b1 :: (g, T, cs') :: L)) : S P ops Q n O w0 rest l (b0 :: b1 :: (g, T, cs) :: L) := h cs hp
theorem absA3 (Pf : Array Value → Prop) (hp : Pf cs) (h : ∀ cs', Pf cs' → S P ops Q n O w0 rest l (b0 :: b1 :: b2 :: (g, T, cs') :: L)) : S P ops Q n O w0 rest l (b0 :: b1 :: b2 :: (g, T, cs) :: L) := h cs hp
end
theorem s_mks {t e : TypeId} {zz : Value} {sz bytes m : Nat} (ho : o.op = .makeSlice t x y) (ht : P.underlying t = some (.slice e)) (hi : (P.info? e).map (fun i => (i.zero, i.size, i.bytes)) = some (some zz, sz, bytes)) (hx : ev l x = some (.int .i64 (m : Int))) (hy : ev l y = some (.int .i64 (m : Int))) (hb : bytes * m ≤ 281474976710656) (hn : m ≤ maxLen) (hg : o.guard = none) (hd : o.dst = some d) (hdn : Nat.blt d n = true)
    (h : ∀ g cs, cs.size = m * sz → S P ops Q n O w0 rest ((d, .slice (some ⟨g, 0, none⟩) m m) :: l) ((g, e, cs) :: L)) : S P ops Q n O w0 (o :: rest) l L := fun a w hF hL =>
  wpl_make hL ho hg ht hi (hF.eval hx) (hF.eval hy) hb hn fun g cs w' hs hL' => by rw [hd]; exact h g cs hs _ _ (hF.put hdn _) hL'
/-- the first k elements stand -/
def Pt (sz : Nat) (cur : Array Value) (xs : List (List Value)) (k : Nat) : Prop := ∀ i c, i < k → xs[i]? = some c → ∀ j, j < sz → cur[i * sz + j]? = c[j]?
theorem Pt.zero {sz : Nat} {cur : Array Value} {xs : List (List Value)} : Pt sz cur xs 0 := fun i c hi => by omega
theorem Pt.put {sz : Nat} {cur : Array Value} {xs : List (List Value)} {k : Nat} {c : List Value} (h : Pt sz cur xs k) (hc : xs[k]? = some c) (hl : c.length = sz) (hfit : k * sz + sz ≤ cur.size) : Pt sz (splice cur (0 + k * sz) c.toArray) xs (k + 1) := fun i d hi hd j hj => by
  rw [splice_get _ _ _ (by simp; omega)]
  by_cases e : i = k
  · subst e
    rw [hc] at hd; injection hd with hd; subst hd
    rw [if_pos (by simp; omega)]
    simp only [List.getElem?_toArray]
    congr 1; omega
  · have hik : i + 1 ≤ k := by omega
    have hm := Nat.mul_le_mul_right sz hik
    rw [Nat.succ_mul] at hm
    rw [if_neg (by simp; omega)]
    exact h i d (by omega) hd j hj
theorem Pt.ap {sz cap : Nat} {cur : Array Value} {xs : List (List Value)} (h : Pt sz cur xs xs.length) (hl : ∀ c ∈ xs, c.length = sz) (hs : cur.size = cap * sz) (hle : xs.length ≤ cap) (hm : cap ≤ maxLen) : Ap sz xs.length cap cur xs.flatten := by
  have hfl := flat_len xs hl
  refine ⟨hfl, hle, hm, hs, ?_⟩
  apply List.ext_getElem?
  intro j
  rw [List.getElem?_take]
  by_cases hj : j < xs.length * sz
  · rw [if_pos hj]
    have hx : xs.flatten[j]? = some (xs.flatten[j]'(by omega)) := List.getElem?_eq_getElem (by omega)
    obtain ⟨i, c, k, h1, h2, h3⟩ := flat_get xs hl j _ hx
    have hc := hl c (List.mem_of_getElem? h1)
    have hk : k < sz := by rw [← hc]; exact (List.getElem?_eq_some_iff.1 h2).1
    rw [hx, ← h2, h3, Array.getElem?_toList]
    exact h i c (List.getElem?_eq_some_iff.1 h1).1 h1 k hk
  · rw [if_neg hj, List.getElem?_eq_none (by omega)]
/-- A slice of the walk's own, as what a callee reads. -/
theorem Ap.elem {sz k cap : Nat} {cur : Array Value} {xs : List (List Value)} (h : Ap sz k cap cur xs.flatten) (hl : ∀ c ∈ xs, c.length = sz) {i : Nat} {c : List Value} (hc : xs[i]? = some c) : ∀ j, j < sz → cur[i * sz + j]? = c[j]? := fun j hj => by
  have hlen := h.len
  rw [flat_len xs hl] at hlen
  have hil := (List.getElem?_eq_some_iff.1 hc).1
  have hm := Nat.mul_le_mul_right sz (show i + 1 ≤ xs.length by omega)
  rw [Nat.succ_mul] at hm
  have h1 : (cur.toList.take (k * sz))[i * sz + j]? = cur[i * sz + j]? := by rw [List.getElem?_take, if_pos (by omega), Array.getElem?_toList]
  rw [← h1, h.take]
  clear h1 hlen h hm
  induction xs generalizing i with
  | nil => simp at hc
  | cons a xs ih =>
    rw [List.flatten_cons]
    have ha := hl a (by simp)
    cases i with
    | zero =>
      simp at hc; subst hc
      rw [List.getElem?_append_left (by omega)]; congr 1; omega
    | succ i =>
      rw [List.getElem?_append_right (by rw [ha, Nat.succ_mul]; omega)]
      rw [show (i + 1) * sz + j - a.length = i * sz + j by rw [ha, Nat.succ_mul]; omega]
      exact ih (fun d hd => hl d (by simp [hd])) (by simpa using hc) (by simpa using hil)
theorem Ap.slA {sz k cap : Nat} {cur : Array Value} {xs : List (List Value)} (h : Ap sz k cap cur xs.flatten) (hl : ∀ c ∈ xs, c.length = sz) {w : World} {g : Nat} {T : TypeId} (hg : w.heap[g]? = some (.cells cur T (0, 0))) : SlA [] w sz (some ⟨g, 0, none⟩) xs := fun i c hc => by
  refine ⟨hl c (List.mem_of_getElem? hc), g, 0, rfl, by simp, fun j u hu => ?_⟩
  rw [cell_of_row w g _ cur T (0, 0) hg]
  have hj : j < sz := by rw [← hl c (List.mem_of_getElem? hc)]; exact (List.getElem?_eq_some_iff.1 hu).1
  rw [Nat.zero_add, h.elem hl hc j hj]; exact hu
theorem Ap.count {sz k cap : Nat} {cur : Array Value} {xs : List (List Value)} (h : Ap sz k cap cur xs.flatten) (hl : ∀ c ∈ xs, c.length = sz) (hsz : 0 < sz) : k = xs.length := by
  have h1 := h.len
  rw [flat_len xs hl] at h1
  exact (Nat.eq_of_mul_eq_mul_right hsz h1).symm
theorem Ap.toSl {sz k cap : Nat} {cur : Array Value} {xs : List (List Value)} (h : Ap sz k cap cur xs.flatten) (hl : ∀ c ∈ xs, c.length = sz) (hsz : 0 < sz) {w : World} {g : Nat} {T : TypeId} (hg : w.heap[g]? = some (.cells cur T (0, 0))) : Sl w sz (.slice (some ⟨g, 0, none⟩) k cap) xs := by
  obtain rfl := h.count hl hsz
  refine ⟨_, cap, rfl, h.le, h.max, fun i c hc => ?_⟩
  obtain ⟨a, b, off, e, _, h'⟩ := h.slA hl hg i c hc
  exact ⟨a, b, off, e, h'⟩
theorem lenSp (l : List Sp) : ∀ c ∈ l.map Sp.cells, c.length = 2 := fun c hc => by obtain ⟨s, _, rfl⟩ := List.mem_map.1 hc; rfl
theorem lenSk (l : List Sk) : ∀ c ∈ l.map Sk.cells, c.length = 3 := fun c hc => by obtain ⟨s, _, rfl⟩ := List.mem_map.1 hc; rfl
theorem lenHd (l : List Hd) : ∀ c ∈ l.map Hd.cells, c.length = 3 := fun c hc => by obtain ⟨s, _, rfl⟩ := List.mem_map.1 hc; rfl
theorem lenGt (l : List Gt) : ∀ c ∈ l.map Gt.cells, c.length = 7 := fun c hc => by obtain ⟨s, _, rfl⟩ := List.mem_map.1 hc; rfl
theorem s_clear0 {t el : TypeId} {zz : Value} {sz bytes g off m c : Nat} {T : TypeId} {cs : Array Value} (ho : o.op = .call { callee := .builtin .clear, args := #[x], argTypes := #[t] }) (hx : ev l x = some (.slice (some ⟨g, off, none⟩) m c)) (ht : P.underlying t = some (.slice el)) (hi : (P.info? el).map (fun i => (i.zero, i.size, i.bytes)) = some (some zz, sz, bytes)) (hzs : zz.cells.size = sz) (hz1 : ∀ u ∈ zz.cells.toList, u.oneCell' = true) (hm : 0 < m) (hfit : off + m * sz ≤ cs.size) (hg : o.guard = none) (hd : o.dst = none)
    (h : ∀ cs', cs'.size = cs.size → (∀ j, j < off → cs'[j]? = cs[j]?) → S P ops Q n O w0 rest l ((g, T, cs') :: L)) : S P ops Q n O w0 (o :: rest) l ((g, T, cs) :: L) := fun a w hF hL =>
  wpList_plain hg fun K hK => by
    have hr := run_clear (ty := o.type) (c := c) ht hi hzs hz1 (hL.at_ (List.mem_cons_self)) hm hfit
    have hsz : (Builtin.zeroCells zz.cells m).size = m * sz := by rw [size_zeroCells, hzs]
    unfold Oper.wp execOp
    simp only [ho, resolve, invoke, builtin, Sem.run_bind, Sem.run_pure, Result.andThen_ok, List.map_toArray, List.map_cons, List.map_nil, hF.eval hx, hr]
    show K (a.put o.dst _) _
    rw [hd]
    refine hK _ _ (h (splice cs off (Builtin.zeroCells zz.cells m)) (splice_size _ _ _ (by omega)) (fun j hj => ?_) _ _ hF (Own.put hL (i := 0) rfl _))
    rw [splice_get _ _ _ (by omega), if_neg (by omega)]
/-- Worlds that differ from an older one in a block and in new blocks alone. -/
structure BelowX (g : Nat) (w w' : World) : Prop where
  os : w'.os = w.os
  tape : w'.tape = w.tape
  output : w'.output = w.output
  size : w.heap.size ≤ w'.heap.size
  block : ∀ k, k < w.heap.size → k ≠ g → w'.heap[k]? = w.heap[k]?
theorem BelowX.of {g : Nat} {w : World} (h : Kn [g] w0 w L) : BelowX g w0 w := ⟨h.os, h.tape, h.output, h.size, fun k hk hne => h.keep k hk fun b hb e => by
  rcases h.low b hb with h1 | h1
  · omega
  · have : b.1 = g := by simpa using h1
    omega⟩
theorem BelowX.ofB {g : Nat} {w w' : World} (h : Below w.heap.size w w') : BelowX g w w' := ⟨h.os, h.tape, h.output, h.size, fun k hk _ => h.block k hk⟩
theorem BelowX.tr {g : Nat} {w w' w'' : World} (h : BelowX g w w') (h' : Below w'.heap.size w' w'') : BelowX g w w'' := ⟨h'.os.trans h.os, h'.tape.trans h.tape, h'.output.trans h.output, Nat.le_trans h.size h'.size, fun k hk hne => (h'.block k (Nat.lt_of_lt_of_le hk h.size)).trans (h.block k hk hne)⟩
end Go.Proofs.Ytfefkkpcjcnmcaa.Wk
