import Derived.Test.YtnafnhpajkhgkaaQY03
import Derived.Test.YtnafnhpajkhgkaaQY09
/- append of a foreign slice; slices of slices; clear. Plain theorems, no condition but that lengths are not beyond all bounds. -/
namespace Go.Proofs.Ytnafnhpajkhgkaa.Wk
set_option linter.unusedVariables false
set_option linter.unusedSimpArgs false
open Go Go.RowKit Mem
variable {P : Program} {n : Nat} {O : List Nat} {w0 : World} {l : List (Nat × Value)} {L pre post : List (Nat × TypeId × Array Value)} {Q : Exit → Act → World → Prop} {ops : Array Oper} {o : Oper} {rest : List Oper} {d : Nat} {x y z : Operand}
/-- What append gives; and what stands then. -/
theorem run_appA {t ty e : TypeId} {z : Value} {sz bytes : Nat} (ht : P.underlying t = some (.slice e)) (hi : (P.info? e).map (fun i => (i.zero, i.size, i.bytes)) = some (some z, sz, bytes)) (hzs : z.cells.size = sz) (hsz : 0 < sz)
    {w : World} {g k cap : Nat} {cur : Array Value} {xs : List Value} (hA : Ap sz k cap cur xs) (hL : Kn O w0 w (pre ++ (g, e, cur) :: post)) (hO : g ∉ O) {ad : Addr} {m c : Nat} {news : List Value} (hl : news.length = m * sz) (hnews : ∀ j u, news[j]? = some u → w.cell? (ad.add j) = some u) (h1 : ∀ u ∈ news, u.oneCell' = true)
    (h63 : k + m ≤ maxLen) (hbytes : (k + m) * bytes ≤ 140737488355328) :
    ∃ g' cap' cur' w', (Builtin.append_ #[t, t] ty #[.slice (some ⟨g, 0, none⟩) k cap, .slice (some ad) m c]).run P w = .ok (.slice (some ⟨g', 0, none⟩) (k + m) cap') w' ∧ Ap sz (k + m) cap' cur' (xs ++ news) ∧ Kn O w0 w' (pre ++ (g', e, cur') :: post) := by
  obtain ⟨i, q1, q2, q3, q4⟩ := info_parts hi
  subst q3; subst q4
  have hg := hL.has (g, e, cur) (by simp)
  have hlen : (xs ++ news).length = (k + m) * i.size := by rw [List.length_append, hA.len, hl, Nat.add_mul]
  by_cases hroom : k + m ≤ cap
  · have hfit : k * i.size + news.length ≤ cur.size := by rw [hl, hA.size, ← Nat.add_mul]; exact Nat.mul_le_mul_right _ hroom
    have hr := run_append_room (P := P) w t ty e i ht q1 g k cap cur hg ad m c news hl hnews h1 hroom hfit
    refine ⟨g, cap, (cur.toList.take (k * i.size) ++ news ++ cur.toList.drop (k * i.size + news.length)).toArray, _, hr, ⟨hlen, hroom, hA.max, ?_, ?_⟩, ?_⟩
    · have := hA.size
      simp only [List.size_toArray, List.length_append, List.length_take, List.length_drop, Array.length_toList]
      omega
    · rw [hA.take, ← hlen]
      exact List.take_left
    · have hp : Kn O w0 w ((g, e, cur) :: (pre ++ post)) := hL.perm List.perm_middle
      exact Kn.perm (L := (g, e, _) :: (pre ++ post)) (Own.put hp (i := 0) rfl _) List.perm_middle.symm
  · have holds : ∀ j u, xs[j]? = some u → w.cell? ((⟨g, 0, none⟩ : Addr).add j) = some u := fun j u hu => by
      rw [add_lit0, Nat.zero_add, cell_of_row w g j cur e (0, 0) hg]
      rw [← hA.take, List.getElem?_take] at hu
      split at hu
      · simpa using hu
      · cases hu
    have hsmall : k + m ≤ 9223372036854775807 := by simp only [maxLen] at h63; omega
    have hle := hA.le
    have hr := run_append_grow (P := P) w t ty e i z ht q1 q2 ⟨g, 0, none⟩ k cap xs hA.len holds ad m c news hl hnews (by omega) (by omega) (growslice_fits (by omega) hbytes)
    have hge := grownCap_ge w (k + m) cap e
    refine ⟨w.heap.size, grownCap w (k + m) cap e, xs.toArray ++ news.toArray ++ Builtin.zeroCells z.cells (grownCap w (k + m) cap e - (k + m)), _, hr, ⟨hlen, hge, grownCap_le_maxLen w (k + m) cap e h63, ?_, ?_⟩, ?_⟩
    · simp only [Array.size_append, List.size_toArray, size_zeroCells, hzs, hA.len, hl, ← Nat.add_mul]
      congr 1
      omega
    · simp only [Array.toList_append, List.append_assoc]
      rw [← List.append_assoc, ← hlen]
      exact List.take_left
    · exact Kn.swapIn (b := (w.heap.size, e, _)) (a := (g, e, cur)) (Own.new (Own.drew hL) e _) hO
theorem flat_get {sz : Nat} : ∀ (xs : List (List Value)), (∀ c ∈ xs, c.length = sz) → ∀ (j : Nat) (u : Value), xs.flatten[j]? = some u → ∃ i c k, xs[i]? = some c ∧ c[k]? = some u ∧ j = i * sz + k
  | [], _, j, u, h => by simp at h
  | c :: xs, hl, j, u, h => by
    rw [List.flatten_cons] at h
    have hc := hl c (by simp)
    by_cases hj : j < c.length
    · rw [List.getElem?_append_left hj] at h
      exact ⟨0, c, j, rfl, h, by omega⟩
    · rw [List.getElem?_append_right (by omega)] at h
      obtain ⟨i, d, k, h1, h2, h3⟩ := flat_get xs (fun d hd => hl d (by simp [hd])) _ u h
      exact ⟨i + 1, d, k, by simpa using h1, h2, by rw [Nat.succ_mul]; omega⟩
theorem flat_len {sz : Nat} : ∀ (xs : List (List Value)), (∀ c ∈ xs, c.length = sz) → xs.flatten.length = xs.length * sz
  | [], _ => by simp
  | c :: xs, hl => by
    rw [List.flatten_cons, List.length_append, flat_len xs (fun d hd => hl d (by simp [hd])), hl c (by simp), List.length_cons, Nat.succ_mul]; omega
theorem SlA.len {w : World} {sz : Nat} {A : Option Addr} {xs : List (List Value)} (h : SlA O w sz A xs) : ∀ c ∈ xs, c.length = sz := fun c hc => by
  obtain ⟨i, hi⟩ := List.mem_iff_getElem?.1 hc
  exact (h i c hi).1
theorem SlA.news {w : World} {sz b off : Nat} {xs : List (List Value)} (h : SlA O w sz (some ⟨b, off, none⟩) xs) : ∀ j u, xs.flatten[j]? = some u → w.cell? ((⟨b, off, none⟩ : Addr).add j) = some u := fun j u hu => by
  obtain ⟨i, c, k, h1, h2, h3⟩ := flat_get xs h.len j u hu
  obtain ⟨_, b', off', e, _, hc⟩ := h i c h1
  injection e with e; injection e with e1 e2; subst e1; subst e2
  have := hc k u h2
  rw [h3]
  have ea : (⟨b, off, none⟩ : Addr).add (i * sz + k) = ⟨b, off + i * sz + k, none⟩ := by unfold Addr.add; split <;> simp_all [Nat.add_assoc]
  rw [ea]; exact this
theorem SlA.mono {w w' : World} {sz : Nat} {A : Option Addr} {xs : List (List Value)} (h : SlA [] w sz A xs) (hL : Kn [] w w' L) : SlA [] w' sz A xs := fun i c hc => by
  obtain ⟨a, b, d, e, g, h'⟩ := h i c hc
  exact ⟨a, b, d, e, g, fun j u hu => Kn.oldc hL (h' j u hu) g⟩
/-- append(own, foreign...) -/
theorem s_appS {t e : TypeId} {zz : Value} {sz bytes : Nat} (ho : o.op = .call { callee := .builtin .append, args := #[x, y], argTypes := #[t, t] }) (ht : P.underlying t = some (.slice e)) (hi : (P.info? e).map (fun i => (i.zero, i.size, i.bytes)) = some (some zz, sz, bytes)) (hzs : zz.cells.size = sz) (hsz : 0 < sz)
    {g k cap : Nat} {cur : Array Value} {cs : List Value} (hA : Ap sz k cap cur cs) {b off m c : Nat} {xs : List (List Value)} (hS : SlA [] w0 sz (some ⟨b, off, none⟩) xs) (hm : m = xs.length) (hx : ev l x = some (.slice (some ⟨g, 0, none⟩) k cap)) (hy : ev l y = some (.slice (some ⟨b, off, none⟩) m c)) (h1 : ∀ u ∈ xs.flatten, u.oneCell' = true)
    (h63 : k + m ≤ maxLen) (hbytes : (k + m) * bytes ≤ 140737488355328) (hg : o.guard = none) (hd : o.dst = some d) (hdn : Nat.blt d n = true)
    (h : ∀ g' cap' cur', Ap sz (k + m) cap' cur' (cs ++ xs.flatten) → S P ops Q n [] w0 rest ((d, .slice (some ⟨g', 0, none⟩) (k + m) cap') :: l) (pre ++ (g', e, cur') :: post)) : S P ops Q n [] w0 (o :: rest) l (pre ++ (g, e, cur) :: post) := fun a w hF hL =>
  wpList_plain hg fun K hK => by
    have hl : xs.flatten.length = m * sz := by rw [flat_len xs hS.len, hm]
    obtain ⟨g', cap', cur', w', hr, hA', hL'⟩ := run_appA (P := P) (ty := o.type) (c := c) ht hi hzs hsz hA hL (by simp) hl (hS.mono hL).news h1 h63 hbytes
    unfold Oper.wp execOp
    simp only [ho, resolve, invoke, builtin, Sem.run_bind, Sem.run_pure, Result.andThen_ok, List.map_toArray, List.map_cons, List.map_nil, hF.eval hx, hF.eval hy, hr]
    show K (a.put o.dst _) w'
    rw [hd]
    exact hK _ _ (h g' cap' cur' hA' _ _ (hF.put hdn _) hL')
theorem sliced_0 (g off h m s : Nat) : sliced (some ⟨g, off, none⟩) 0 h m s = .slice (some ⟨g, off, none⟩) h m := by
  unfold sliced; split
  · simp
  · simp [add_lit0]
theorem sliced_l {g off l h m s : Nat} (hl : l < m) : sliced (some ⟨g, off, none⟩) l h m s = .slice (some ⟨g, off + l * s, none⟩) (h - l) (m - l) := by
  unfold sliced; rw [if_neg (by omega)]
  simp only [Option.map_some]
  congr 2
  unfold Addr.add; split <;> simp_all
/-- s[:h] -/
theorem r_slcH (tb : Tb P) {t el sz : Nat} {g off len cap h : Nat} {kd : IntKind} (ho : o.op = .slice t x none (some y) none) (hx : ev l x = some (.slice (some ⟨g, off, none⟩) len cap)) (hy : ev l y = some (.int kd (h : Int))) (ht : lkT tb.l t = some (el, sz)) (hle : h ≤ cap) : Rn P n O w0 l L o (.slice (some ⟨g, off, none⟩) h cap) := fun a w hF hL => by
  have hu := (tb.slice ht).1
  have he : P.underlying t = some (.slice (P.elem t)) := by rw [hu]; simp [Program.elem, hu]
  have hel : P.elem t = el := by simp [Program.elem, hu]
  have hs := run_size (tb.slice ht).2 w
  simp only [execOp, ho, Option.map_none, Option.map_some, hF.eval hx, hF.eval hy, Sem.run_bind, run_sliceAt_slice w t _ _ _ _ he, run_slice_h w t (some ⟨g, off, none⟩) len cap he kd (h : Int) (by omega) (by omega), hel, hs, Result.andThen_ok, Int.toNat_natCast, sliced_0, Sem.run_pure]
/-- s[l:] -/
theorem r_slcL (tb : Tb P) {t el sz : Nat} {g off len cap i : Nat} {kd : IntKind} (ho : o.op = .slice t x (some y) none none) (hx : ev l x = some (.slice (some ⟨g, off, none⟩) len cap)) (hy : ev l y = some (.int kd (i : Int))) (ht : lkT tb.l t = some (el, sz)) (hle : i ≤ len) (hlt : i < cap) : Rn P n O w0 l L o (.slice (some ⟨g, off + i * sz, none⟩) (len - i) (cap - i)) := fun a w hF hL => by
  have hu := (tb.slice ht).1
  have he : P.underlying t = some (.slice (P.elem t)) := by rw [hu]; simp [Program.elem, hu]
  have hel : P.elem t = el := by simp [Program.elem, hu]
  have hs := run_size (tb.slice ht).2 w
  simp only [execOp, ho, Option.map_none, Option.map_some, hF.eval hx, hF.eval hy, Sem.run_bind, run_sliceAt_slice w t _ _ _ _ he, run_slice_l w t (some ⟨g, off, none⟩) len cap he kd (i : Int) (by omega) (by omega), hel, hs, Result.andThen_ok, Int.toNat_natCast, sliced_l hlt, Sem.run_pure]
theorem run_clear {t el ty : TypeId} {zz : Value} {sz bytes : Nat} (ht : P.underlying t = some (.slice el)) (hi : (P.info? el).map (fun i => (i.zero, i.size, i.bytes)) = some (some zz, sz, bytes)) (hzs : zz.cells.size = sz) (hz1 : ∀ u ∈ zz.cells.toList, u.oneCell' = true)
    {w : World} {g off m c : Nat} {T : TypeId} {cs : Array Value} (hg : w.heap[g]? = some (.cells cs T (0, 0))) (hm : 0 < m) (hfit : off + m * sz ≤ cs.size) :
    (Builtin.clear_ #[t] ty #[.slice (some ⟨g, off, none⟩) m c]).run P w = .ok (.tuple #[]) (w.setRow g (splice cs off (Builtin.zeroCells zz.cells m))) := by
  obtain ⟨i, q1, q2, q3, q4⟩ := info_parts hi
  have hzv : (zeroValue el).run P w = .ok zz w := by simp [zeroValue, typeInfo, q1, q2]
  have hsz : (Builtin.zeroCells zz.cells m).toList.length = m * sz := by rw [Array.length_toList, size_zeroCells, hzs]
  have h1 : ∀ v ∈ (Builtin.zeroCells zz.cells m).toList, v.oneCell' = true := by
    intro v hv
    unfold Builtin.zeroCells at hv
    simp at hv
    obtain ⟨j, hj, rfl⟩ := hv
    have hs : 0 < zz.cells.size := by
      rcases Nat.eq_zero_or_pos zz.cells.size with e | e
      · rw [e] at hj; simp at hj
      · exact e
    have hlt := Nat.mod_lt j hs
    rw [getElem!_pos zz.cells _ hlt]
    exact hz1 _ (by simp)
  have hst := run_storeCells_at P g off T (Builtin.zeroCells zz.cells m).toList 0 cs w hg (by rw [hsz]; omega) h1
  unfold Builtin.clear_
  obtain ⟨m', rfl⟩ : ∃ m', m = m' + 1 := ⟨m - 1, by omega⟩
  simp only [List.getElem?_toArray, List.getElem?_cons_zero, Sem.run_bind, run_underlying ht, Result.andThen_ok, hzv, hst, Sem.run_pure, Nat.add_zero]
  simp [splice]
end Go.Proofs.Ytnafnhpajkhgkaa.Wk
/- Slices made cell by cell. Plain theorems, no condition. -/
namespace Go.Proofs.Ytnafnhpajkhgkaa.Wk
set_option linter.unusedVariables false
set_option linter.unusedSimpArgs false
open Go Go.RowKit Mem
variable {P : Program} {n : Nat} {O : List Nat} {w0 : World} {l : List (Nat × Value)} {L : List (Nat × TypeId × Array Value)} {Q : Exit → Act → World → Prop} {ops : Array Oper} {o : Oper} {rest : List Oper} {d : Nat} {x y : Operand}
section
variable {b0 b1 b2 b3 b4 b5 : Nat × TypeId × Array Value} {g : Nat} {T : TypeId} {cs : Array Value}
theorem absA0 (Pf : Array Value → Prop) (hp : Pf cs) (h : ∀ cs', Pf cs' → S P ops Q n O w0 rest l ((g, T, cs') :: L)) : S P ops Q n O w0 rest l ((g, T, cs) :: L) := h cs hp
theorem absA1 (Pf : Array Value → Prop) (hp : Pf cs) (h : ∀ cs', Pf cs' → S P ops Q n O w0 rest l (b0 :: (g, T, cs') :: L)) : S P ops Q n O w0 rest l (b0 :: (g, T, cs) :: L) := h cs hp
end
/-- the first k elements stand -/
def Pt (sz : Nat) (cur : Array Value) (xs : List (List Value)) (k : Nat) : Prop := ∀ i c, i < k → xs[i]? = some c → ∀ j, j < sz → cur[i * sz + j]? = c[j]?
theorem Pt.zero {sz : Nat} {cur : Array Value} {xs : List (List Value)} : Pt sz cur xs 0 := fun i c hi => by omega
theorem Pt.put {sz : Nat} {cur : Array Value} {xs : List (List Value)} {k : Nat} {c : List Value} (h : Pt sz cur xs k) (hc : xs[k]? = some c) (hl : c.length = sz) (hfit : k * sz + sz ≤ cur.size) : Pt sz (splice cur (0 + k * sz) c.toArray) xs (k + 1) := fun i d hi hd j hj => by
  rw [splice_get _ _ _ (by simp; omega)]
  by_cases e : i = k
  · subst e
    rw [hc] at hd; injection hd with hd; subst hd
    rw [if_pos (by simp; omega)]
    simp only [List.getElem?_toArray]
    congr 1; omega
  · have hik : i + 1 ≤ k := by omega
    have hm := Nat.mul_le_mul_right sz hik
    rw [Nat.succ_mul] at hm
    rw [if_neg (by simp; omega)]
    exact h i d (by omega) hd j hj
theorem Pt.ap {sz cap : Nat} {cur : Array Value} {xs : List (List Value)} (h : Pt sz cur xs xs.length) (hl : ∀ c ∈ xs, c.length = sz) (hs : cur.size = cap * sz) (hle : xs.length ≤ cap) (hm : cap ≤ maxLen) : Ap sz xs.length cap cur xs.flatten := by
  have hfl := flat_len xs hl
  refine ⟨hfl, hle, hm, hs, ?_⟩
  apply List.ext_getElem?
  intro j
  rw [List.getElem?_take]
  by_cases hj : j < xs.length * sz
  · rw [if_pos hj]
    have hx : xs.flatten[j]? = some (xs.flatten[j]'(by omega)) := List.getElem?_eq_getElem (by omega)
    obtain ⟨i, c, k, h1, h2, h3⟩ := flat_get xs hl j _ hx
    have hc := hl c (List.mem_of_getElem? h1)
    have hk : k < sz := by rw [← hc]; exact (List.getElem?_eq_some_iff.1 h2).1
    rw [hx, ← h2, h3, Array.getElem?_toList]
    exact h i c (List.getElem?_eq_some_iff.1 h1).1 h1 k hk
  · rw [if_neg hj, List.getElem?_eq_none (by omega)]
/-- A slice of the walk's own, as what a callee reads. -/
theorem Ap.elem {sz k cap : Nat} {cur : Array Value} {xs : List (List Value)} (h : Ap sz k cap cur xs.flatten) (hl : ∀ c ∈ xs, c.length = sz) {i : Nat} {c : List Value} (hc : xs[i]? = some c) : ∀ j, j < sz → cur[i * sz + j]? = c[j]? := fun j hj => by
  have hlen := h.len
  rw [flat_len xs hl] at hlen
  have hil := (List.getElem?_eq_some_iff.1 hc).1
  have hm := Nat.mul_le_mul_right sz (show i + 1 ≤ xs.length by omega)
  rw [Nat.succ_mul] at hm
  have h1 : (cur.toList.take (k * sz))[i * sz + j]? = cur[i * sz + j]? := by rw [List.getElem?_take, if_pos (by omega), Array.getElem?_toList]
  rw [← h1, h.take]
  clear h1 hlen h hm
  induction xs generalizing i with
  | nil => simp at hc
  | cons a xs ih =>
    rw [List.flatten_cons]
    have ha := hl a (by simp)
    cases i with
    | zero =>
      simp at hc; subst hc
      rw [List.getElem?_append_left (by omega)]; congr 1; omega
    | succ i =>
      rw [List.getElem?_append_right (by rw [ha, Nat.succ_mul]; omega)]
      rw [show (i + 1) * sz + j - a.length = i * sz + j by rw [ha, Nat.succ_mul]; omega]
      exact ih (fun d hd => hl d (by simp [hd])) (by simpa using hc) (by simpa using hil)
theorem Ap.slA {sz k cap : Nat} {cur : Array Value} {xs : List (List Value)} (h : Ap sz k cap cur xs.flatten) (hl : ∀ c ∈ xs, c.length = sz) {w : World} {g : Nat} {T : TypeId} (hg : w.heap[g]? = some (.cells cur T (0, 0))) : SlA [] w sz (some ⟨g, 0, none⟩) xs := fun i c hc => by
  refine ⟨hl c (List.mem_of_getElem? hc), g, 0, rfl, by simp, fun j u hu => ?_⟩
  rw [cell_of_row w g _ cur T (0, 0) hg]
  have hj : j < sz := by rw [← hl c (List.mem_of_getElem? hc)]; exact (List.getElem?_eq_some_iff.1 hu).1
  rw [Nat.zero_add, h.elem hl hc j hj]; exact hu
theorem Ap.count {sz k cap : Nat} {cur : Array Value} {xs : List (List Value)} (h : Ap sz k cap cur xs.flatten) (hl : ∀ c ∈ xs, c.length = sz) (hsz : 0 < sz) : k = xs.length := by
  have h1 := h.len
  rw [flat_len xs hl] at h1
  exact (Nat.eq_of_mul_eq_mul_right hsz h1).symm
theorem Ap.toSl {sz k cap : Nat} {cur : Array Value} {xs : List (List Value)} (h : Ap sz k cap cur xs.flatten) (hl : ∀ c ∈ xs, c.length = sz) (hsz : 0 < sz) {w : World} {g : Nat} {T : TypeId} (hg : w.heap[g]? = some (.cells cur T (0, 0))) : Sl w sz (.slice (some ⟨g, 0, none⟩) k cap) xs := by
  obtain rfl := h.count hl hsz
  refine ⟨_, cap, rfl, h.le, h.max, fun i c hc => ?_⟩
  obtain ⟨a, b, off, e, _, h'⟩ := h.slA hl hg i c hc
  exact ⟨a, b, off, e, h'⟩
theorem lenSp (l : List Sp) : ∀ c ∈ l.map Sp.cells, c.length = 2 := fun c hc => by obtain ⟨s, _, rfl⟩ := List.mem_map.1 hc; rfl
theorem lenHd (l : List Hd) : ∀ c ∈ l.map Hd.cells, c.length = 3 := fun c hc => by obtain ⟨s, _, rfl⟩ := List.mem_map.1 hc; rfl
theorem s_clear0 {t el : TypeId} {zz : Value} {sz bytes g off m c : Nat} {T : TypeId} {cs : Array Value} (ho : o.op = .call { callee := .builtin .clear, args := #[x], argTypes := #[t] }) (hx : ev l x = some (.slice (some ⟨g, off, none⟩) m c)) (ht : P.underlying t = some (.slice el)) (hi : (P.info? el).map (fun i => (i.zero, i.size, i.bytes)) = some (some zz, sz, bytes)) (hzs : zz.cells.size = sz) (hz1 : ∀ u ∈ zz.cells.toList, u.oneCell' = true) (hm : 0 < m) (hfit : off + m * sz ≤ cs.size) (hg : o.guard = none) (hd : o.dst = none)
    (h : ∀ cs', cs'.size = cs.size → (∀ j, j < off → cs'[j]? = cs[j]?) → S P ops Q n O w0 rest l ((g, T, cs') :: L)) : S P ops Q n O w0 (o :: rest) l ((g, T, cs) :: L) := fun a w hF hL =>
  wpList_plain hg fun K hK => by
    have hr := run_clear (ty := o.type) (c := c) ht hi hzs hz1 (hL.at_ (List.mem_cons_self)) hm hfit
    have hsz : (Builtin.zeroCells zz.cells m).size = m * sz := by rw [size_zeroCells, hzs]
    unfold Oper.wp execOp
    simp only [ho, resolve, invoke, builtin, Sem.run_bind, Sem.run_pure, Result.andThen_ok, List.map_toArray, List.map_cons, List.map_nil, hF.eval hx, hr]
    show K (a.put o.dst _) _
    rw [hd]
    refine hK _ _ (h (splice cs off (Builtin.zeroCells zz.cells m)) (splice_size _ _ _ (by omega)) (fun j hj => ?_) _ _ hF (Own.put hL (i := 0) rfl _))
    rw [splice_get _ _ _ (by omega), if_neg (by omega)]
/-- Worlds that differ from an older one in a block and in new blocks alone. -/
structure BelowX (g : Nat) (w w' : World) : Prop where
  os : w'.os = w.os
  tape : w'.tape = w.tape
  output : w'.output = w.output
  size : w.heap.size ≤ w'.heap.size
  block : ∀ k, k < w.heap.size → k ≠ g → w'.heap[k]? = w.heap[k]?
theorem BelowX.of {g : Nat} {w : World} (h : Kn [g] w0 w L) : BelowX g w0 w := ⟨h.os, h.tape, h.output, h.size, fun k hk hne => h.keep k hk fun b hb e => by
  rcases h.low b hb with h1 | h1
  · omega
  · have : b.1 = g := by simpa using h1
    omega⟩
theorem BelowX.tr {g : Nat} {w w' w'' : World} (h : BelowX g w w') (h' : Below w'.heap.size w' w'') : BelowX g w w'' := ⟨h'.os.trans h.os, h'.tape.trans h.tape, h'.output.trans h.output, Nat.le_trans h.size h'.size, fun k hk hne => (h'.block k (Nat.lt_of_lt_of_le hk h.size)).trans (h.block k hk hne)⟩
end Go.Proofs.Ytnafnhpajkhgkaa.Wk
/- Hurdles at the sides of cells: hurdleAt, stands, put; the reference's l01Closed and l01Set. No condition. -/
namespace Go.Proofs.Ytnafnhpajkhgkaa
set_option linter.unusedVariables false
set_option linter.unusedSimpArgs false
open Go.RowKit Mem Wk
attribute [local irreducible] Calls Wk.S Wk.C Wk.E Wk.X Wk.T Wk.andV Wk.shrV Calm.wpLex
def hdX (x side : Int) : Int := if side = 0 then nextX x side else if side = 3 then nextX x side else x
def hdY (y side : Int) : Int := if side = 0 then nextY y side else if side = 3 then nextY y side else y
def hdS (side : Int) : Bool := decide (side = 0) || decide (side = 2)
set_option maxRecDepth 100000 in
set_option maxHeartbeats 400000 in
theorem hurdleAt_any (x y side : Int) (w : World) (hx : -127 ≤ x ∧ x ≤ 126) (hy : -127 ≤ y ∧ y ≤ 126) :
    Calls Try.prog 86 #[.agg #[.int .i8 x, .int .i8 y], .int .i64 side] w fun e w' => e = .returned (.agg #[.int .i8 (hdX x side), .int .i8 (hdY y side), .bool (hdS side)]) ∧ Below w.heap.size w w' := by
  refine enter2 Try.func86 rfl rfl rfl (Own.start w) ?_
  repeat' (first
    | (refine s_g ?_; first
      | (refine s_gd rfl ?_; first | refine s_gd1 rfl rfl zTr ?_ | refine s_gd0 rfl rfl rfl zTr ?_ | refine s_gd00 rfl rfl zTr ?_ | refine s_gp1 rfl rfl rfl (fun hc => ?_) (fun hc => ?_) | refine s_gp0 rfl rfl rfl (fun hc => ?_) (fun hc => ?_) | refine s_gnp1 rfl rfl rfl (fun hc => ?_) (fun hc => ?_) | refine s_gnp0 rfl rfl rfl (fun hc => ?_) (fun hc => ?_) | refine s_gb1 rfl rfl rfl (fun hc => ?_) (fun hc => ?_) | refine s_gb0 rfl rfl rfl (fun hc => ?_) (fun hc => ?_) | refine s_gnb1 rfl rfl rfl (fun hc => ?_) (fun hc => ?_) | refine s_gnb0 rfl rfl rfl (fun hc => ?_) (fun hc => ?_))
      | (refine s_k 0 rfl ?_; refine s_val rfl rfl rfl (r_move rfl rfl) ?_)
      | (refine s_k 8 rfl ?_; first | (refine' s_val rfl rfl rfl (r_ldv rfl rfl ?qm ?qv) ?_; (case qm => (exact zMm)); (case qv => (exact zLe))) | (refine' s_val rfl rfl rfl (r_ldo rfl rfl ?qw (by simp) ?qv) ?_; (case qw => assumption); (case qv => (exact zLe))))
      | (refine s_k 13 rfl ?_; refine s_val rfl rfl rfl (r_eql rfl rfl rfl) ?_)
      | (refine s_k 35 rfl ?_; (refine s_call Try.func79 (by kernel_rfl) rfl rfl rfl rfl rfl rfl (fun w hL => ahead_any _ _ _ _ hx hy) ?_))
      | (refine s_k 2 rfl ?_; first | refine s_val rfl rfl rfl (r_pick1 rfl rfl zTr rfl) ?_ | refine s_val rfl rfl rfl (r_pick0 rfl rfl zTr rfl) ?_)
      | (refine s_k 4 rfl ?_; first | refine s_boxA rfl rfl rfl rfl rfl fun blk => ?_ | refine s_box1 rfl rfl rfl rfl rfl rfl fun blk => ?_)
      | (refine s_k 9 rfl ?_; (first | refine s_st1 tb rfl rfl rfl rfl rfl rfl rfl rfl ?_ | refine s_stA tb rfl rfl rfl rfl (by first | rfl | assumption | (apply Pv.size; assumption)) rfl rfl ?_); (first | refine' st0 ?qs ?_ | refine' st1 ?qs ?_ | refine' st2 ?qs ?_ | refine' st3 ?qs ?_ | refine' st4 ?qs ?_ | refine' st5 ?qs ?_ | refine' st6 ?qs ?_ | refine' st7 ?qs ?_ | refine' st8 ?qs ?_ | refine' st9 ?qs ?_ | refine' st10 ?qs ?_ | refine' st11 ?qs ?_); (case qs => (first | exact zSet)))
      | (refine s_k 3 rfl ?_; refine s_allocA (t := 66) rfl zImplHurdle rfl rfl rfl fun blk => ?_)
      | (refine s_k 5 rfl ?_; refine s_val rfl rfl rfl (r_build rfl rfl (fun w => bHurdle _ _ _ rfl w)) ?_)
      | refine s_nil ?_)
    | (refine c_g ?_; first | refine c_seq ?_ | refine c_region ?_ | (refine c_gc ?_; first | refine c_cond1 rfl zTr ?_ | refine c_cond0 rfl zTr ?_ | refine z_condd1 rfl ?_ | refine z_condd0 rfl ?_ | refine z_conddn1 rfl ?_ | refine z_conddn0 rfl ?_ | refine c_condd rfl (fun hc => ?_) (fun hc => ?_) | refine c_conddn rfl (fun hc => ?_) (fun hc => ?_) | refine c_condn rfl (fun hc => ?_) (fun hc => ?_) | refine c_cond rfl (fun hc => ?_) (fun hc => ?_)) | refine c_block ?_ | refine c_skip ?_ | refine c_exit ?_ | refine c_ret ?_)
    | (refine e_g ?_; first | refine e_then ?_ | refine e_blkn ?_ | refine e_thenx ?_ | refine e_thenr ?_ | refine e_blkr ?_ | refine e_blkx ?_ | refine e_blky rfl ?_)
    | (refine e_ret1 (by simp) rfl (re_cell tb rfl m0 rfl rfl) fun w hL => ⟨?_, hL.toBelow⟩))
  all_goals (simp [hdX, hdY, hdS, *]; done)
def standB (p : Nat → Int) (x y : Int) (s : Bool) : Bool := if s then bitB (p (112 + y.toNat)) x else bitB (p (102 + y.toNat)) x
set_option maxRecDepth 100000 in
set_option maxHeartbeats 400000 in
theorem stands_any (p : Nat → Int) (cs : Array Value) (x y : Int) (s : Bool) (w : World) (hp : Pv p cs) (hx : 0 ≤ x ∧ x < 10) (hy : 0 ≤ y ∧ y < 10) :
    Calls Try.prog 66 #[.agg cs, .agg #[.int .i8 x, .int .i8 y, .bool s]] w fun e w' => e = .returned (.bool (standB p x y s)) ∧ Below w.heap.size w w' := by
  refine enter2 Try.func66 rfl rfl rfl (Own.start w) ?_
  repeat' (first
    | (refine s_g ?_; first
      | (refine s_k 23 rfl ?_; first | refine s_val rfl rfl rfl (r_field tb rfl rfl rfl) ?_ | refine s_val rfl rfl rfl (r_fieldS tb rfl rfl rfl) ?_)
      | (refine s_k 8 rfl ?_; first | (refine' s_val rfl rfl rfl (r_ldv rfl rfl ?qm ?qv) ?_; (case qm => (exact zMm)); (case qv => (first | exact ldvL tb rfl rfl | exact ldv1 tb rfl (by assumption) | exact ldv1 tb rfl (hp.eastA (by omega) (by omega)) | exact ldv1 tb rfl (hp.southA (by omega) (by omega)) | exact zLd))) | (refine' s_val rfl rfl rfl (r_ldo rfl rfl ?qw (by simp) ?qv) ?_; (case qw => assumption); (case qv => (first | exact ldvL tb rfl rfl | exact ldv1 tb rfl (by assumption) | exact ldv1 tb rfl (hp.eastA (by omega) (by omega)) | exact ldv1 tb rfl (hp.southA (by omega) (by omega)) | exact zLd))))
      | (refine s_k 1 rfl ?_; refine s_val rfl rfl rfl (r_assign rfl rfl) ?_)
      | (refine s_k 13 rfl ?_; first | refine s_val rfl rfl rfl (r_eql rfl rfl rfl) ?_ | refine s_val rfl rfl rfl (r_and rfl rfl rfl) ?_ | refine s_val rfl rfl rfl (r_shr rfl rfl rfl (by omega)) ?_)
      | (refine s_k 25 rfl ?_; first | refine s_val rfl rfl rfl (r_ixN tb rfl rfl rfl rfl (by omega)) ?_ | refine s_val rfl rfl rfl (r_ixA tb rfl rfl rfl rfl (by omega) (by omega)) ?_ | refine s_val rfl rfl rfl (r_ixO tb rfl rfl rfl rfl (by omega)) ?_)
      | (refine s_k 4 rfl ?_; first | refine s_boxA rfl rfl rfl rfl rfl fun blk => ?_ | refine s_box1 rfl rfl rfl rfl rfl rfl fun blk => ?_)
      | refine s_nil ?_)
    | (refine c_g ?_; first | refine c_seq ?_ | refine c_region ?_ | (refine c_gc ?_; first | refine c_cond1 rfl zTr ?_ | refine c_cond0 rfl zTr ?_ | refine z_condd1 rfl ?_ | refine z_condd0 rfl ?_ | refine z_conddn1 rfl ?_ | refine z_conddn0 rfl ?_ | refine c_condd rfl (fun hc => ?_) (fun hc => ?_) | refine c_conddn rfl (fun hc => ?_) (fun hc => ?_) | refine c_condn rfl (fun hc => ?_) (fun hc => ?_) | refine c_cond rfl (fun hc => ?_) (fun hc => ?_)) | refine c_block ?_ | refine c_skip ?_ | refine c_exit ?_ | refine c_ret ?_)
    | (refine e_g ?_; first | refine e_then ?_ | refine e_blkn ?_ | refine e_thenx ?_ | refine e_thenr ?_ | refine e_blkr ?_ | refine e_blkx ?_ | refine e_blky rfl ?_)
    | (refine x_g ?_; first
      | (refine x_k 23 rfl ?_; first | (refine x_val rfl rfl rfl (r_field tb rfl rfl rfl) ?hp ?_; (case hp => exact rfl)) | (refine x_val rfl rfl rfl (r_fieldS tb rfl rfl rfl) ?hp ?_; (case hp => exact rfl)))
      | (refine x_k 8 rfl ?_; first | (refine' x_val rfl rfl rfl (r_ldv rfl rfl ?qm ?qv) ?hp ?_; (case qm => (exact zMm)); (case qv => (first | exact ldvL tb rfl rfl | exact ldv1 tb rfl (by assumption) | exact ldv1 tb rfl (hp.eastA (by omega) (by omega)) | exact ldv1 tb rfl (hp.southA (by omega) (by omega)) | exact zLd)); (case hp => exact rfl)) | (refine' x_val rfl rfl rfl (r_ldo rfl rfl ?qw (by simp) ?qv) ?hp ?_; (case qw => assumption); (case qv => (first | exact ldvL tb rfl rfl | exact ldv1 tb rfl (by assumption) | exact ldv1 tb rfl (hp.eastA (by omega) (by omega)) | exact ldv1 tb rfl (hp.southA (by omega) (by omega)) | exact zLd)); (case hp => exact rfl)))
      | (refine x_k 1 rfl ?_; (refine x_val rfl rfl rfl (r_assign rfl rfl) ?hp ?_; (case hp => exact rfl)))
      | (refine x_k 13 rfl ?_; first | (refine x_val rfl rfl rfl (r_eql rfl rfl rfl) ?hp ?_; (case hp => exact rfl)) | (refine x_val rfl rfl rfl (r_and rfl rfl rfl) ?hp ?_; (case hp => exact rfl)) | (refine x_val rfl rfl rfl (r_shr rfl rfl rfl (by omega)) ?hp ?_; (case hp => exact rfl)))
      | (refine x_k 25 rfl ?_; first | (refine x_val rfl rfl rfl (r_ixN tb rfl rfl rfl rfl (by omega)) ?hp ?_; (case hp => exact rfl)) | (refine x_val rfl rfl rfl (r_ixA tb rfl rfl rfl rfl (by omega) (by omega)) ?hp ?_; (case hp => exact rfl)) | (refine x_val rfl rfl rfl (r_ixO tb rfl rfl rfl rfl (by omega)) ?hp ?_; (case hp => exact rfl)))
      | (refine x_k 4 rfl ?_; (refine x_boxA rfl rfl rfl rfl rfl ?hp (fun blk => ?_); (case hp => exact rfl)))
      | refine x_nil0 ?_
      | refine x_nil ?_)
    | (refine' c_drawX (id := 2) [(Sum.inl _ : Calm.Plan), (Sum.inl _ : Calm.Plan), (Sum.inl _ : Calm.Plan), (Sum.inl _ : Calm.Plan), (Sum.inl _ : Calm.Plan), (Sum.inl _ : Calm.Plan), (Sum.inl _ : Calm.Plan), (Sum.inl _ : Calm.Plan), (Sum.inl _ : Calm.Plan), (Sum.inl _ : Calm.Plan), (Sum.inl _ : Calm.Plan), (Sum.inl _ : Calm.Plan), (Sum.inl _ : Calm.Plan)] (by kernel_rfl) (by kernel_rfl) (by kernel_rfl) ?_)
    | (refine' c_drawX (id := 3) [(Sum.inl _ : Calm.Plan), (Sum.inl _ : Calm.Plan), (Sum.inl _ : Calm.Plan), (Sum.inl _ : Calm.Plan), (Sum.inl _ : Calm.Plan), (Sum.inl _ : Calm.Plan), (Sum.inl _ : Calm.Plan), (Sum.inl _ : Calm.Plan), (Sum.inl _ : Calm.Plan), (Sum.inl _ : Calm.Plan), (Sum.inl _ : Calm.Plan), (Sum.inl _ : Calm.Plan), (Sum.inl _ : Calm.Plan)] (by kernel_rfl) (by kernel_rfl) (by kernel_rfl) ?_)
    | (refine e_ret1 (by simp) rfl (re_tmp rfl) fun w hL => ⟨?_, hL.toBelow⟩))
  all_goals (simp [standB, bitB, *]; done)
end Go.Proofs.Ytnafnhpajkhgkaa
